/- girderlaw18's awake answers true. -/
import Derived.Test.YtgljhgjjenengaaGreatDoorJc
import Derived.Test.YtgljhgjjenengaaGreatDoorJa
namespace Go.Proofs.YtgljhgjjenengaaGreatDoor
open Go Go.RowKit GFl Ieee
open Go.Proofs.YtgljhgjjenengaaGreatDoorW.PrintWords (Kd)
open XJt (S23 k23 z23 rd_T23 at_T23)
set_option maxRecDepth 100000
attribute [local go_sem] run_f64bits run_f64frombits run_neg_f64 run_store_float

/-- The cells of a joint. -/
def jc (j : S23) : List Value := [.string j.f0, .int .i32 j.f1, .int .i32 j.f2, .int .u8 j.f3]
theorem jc_at : ∀ (l : List S23) (k i : Nat) (j : S23), l[k]? = some j → i < 4 → (l.flatMap jc)[k * 4 + i]? = (jc j)[i]? := by
  intro l
  induction l with
  | nil => intro k i j h; simp at h
  | cons a l ih =>
    intro k i j h hi
    have e : (jc a).length = 4 := rfl
    rw [List.flatMap_cons]
    cases k with
    | zero =>
      have h' : a = j := by simpa using h
      subst h'
      rw [Nat.zero_mul, Nat.zero_add, List.getElem?_append_left (by omega)]
    | succ k =>
      rw [List.getElem?_append_right (by omega), e, show (k + 1) * 4 + i - 4 = k * 4 + i by omega]
      exact ih k i j (by simpa using h) hi
theorem add_blk (b k : Nat) : (⟨b, 0, none⟩ : Addr).add k = ⟨b, k, none⟩ := by
  unfold Addr.add; split <;> simp_all
theorem C_blk {w : World} {b : Nat} {l m : List S23} {t : TypeId} {fz : Nat × Nat} (hl : l.length ≤ 9223372036854775807) (hb : w.heap[b]? = some (.cells ((l ++ m).flatMap jc).toArray t fz)) : Kd.C k23 w (some ⟨b, 0, none⟩) l.length l := by
  refine ⟨rfl, hl, fun _ => ⟨_, rfl, fun j p hj => ⟨jc p, rfl, XJt.k23_mk w p, fun i u hu => ?_⟩⟩⟩
  have hi : i < 4 := (List.getElem?_eq_some_iff.1 hu).1
  have hj' : (l ++ m)[j]? = some p := by rw [List.getElem?_append_left (List.getElem?_eq_some_iff.1 hj).1]; exact hj
  rw [add_blk]
  refine kb_cell hb ?_
  rw [List.getElem?_toArray]
  exact (jc_at _ j i p hj' hi).trans hu
theorem find_at (A : Option Addr) (c : Nat) (l : List S23) (nm : ByteArray) (w : World) (hr : Kd.C k23 w A l.length l) (i : Nat) (hi : i < l.length) (hm : l.length ≤ 1000)
    (hn : ∀ k : Nat, k < i → ((rd_T23 l k).f0.toList == nm.toList) = false) (he : ((rd_T23 l i).f0.toList == nm.toList) = true) :
    Calls Tryz.prog 18 #[.slice A l.length c, .string nm] w fun e w' => e = .returned (.tuple #[.int .i64 i, .bool true]) ∧ w = w' := by
  have HR := Lib.hid hr
  have HN := Lib.hid hn
  have HE := Lib.hid he
  clear hr hn he
  go_enter Tryz.func18, Tryz.ntmps18
  go_wp2
  go_loop [9] (fun v => ∃ k : Nat, k ≤ i ∧ v = .int .i64 k) (fun v => l.length - (intOf v).toNat)
  case atStart => exact ⟨0, Nat.zero_le _, rfl⟩
  case round =>
    obtain ⟨k, hk, rfl⟩ := hrel
    obtain ⟨ad, e, h0, _⟩ := at_T23 HR.out (k : Int) (by omega) (by omega)
    subst e
    rw [Int.toNat_natCast] at h0
    by_cases hlt : k < i
    · have t := HN.out k hlt
      generalize (rd_T23 l (k : Int)).f0 = s at *
      go_wp2
      go_round
      case rel => exact ⟨k + 1, by omega, by go_num⟩
      case measure => simp [intOf]; omega
    · obtain rfl : k = i := by omega
      have t := HE.out
      generalize (rd_T23 l (k : Int)).f0 = s at *
      go_wp2
      go_ret2
      exact ⟨rfl, rfl⟩
/-- The chapter's two joints. -/
def jA : S23 := ⟨⟨#[97]⟩, 1, 1, 0⟩
def jB : S23 := ⟨⟨#[98, 49]⟩, 4, 5, 0⟩
theorem awake_c (w : World) : Calls Tryz.prog 11 #[] w fun e w' => e = .returned (.bool true) ∧ Below w.heap.size w w' := by
  have ap : ∀ w, Calls Tryz.prog 5 #[.agg #[.string ⟨#[97]⟩, .int .i32 1, .int .i32 1, .int .u8 0], .agg #[.string ⟨#[98, 49]⟩, .int .i32 4, .int .i32 5, .int .u8 0]] w fun e w' => e = .returned (.tuple #[.int .i64 3, .int .i64 4, .int .i64 25]) ∧ Below w.heap.size w w' := fun w => apart_c ⟨#[97]⟩ ⟨#[98, 49]⟩ 1 1 4 5 0 0 w
  have ln : ∀ w, Calls Tryz.prog 7 #[.agg #[.string ⟨#[97]⟩, .int .i32 1, .int .i32 1, .int .u8 0], .agg #[.string ⟨#[98, 49]⟩, .int .i32 4, .int .i32 5, .int .u8 0]] w fun e w' => e = .returned (.tuple #[.agg #[.float .f64 4617315517961601024, .float .f64 4617315517961601024], .float .f64 4617315517961601024]) ∧ Below w.heap.size w w' := fun w => by
    have h := length_c ⟨#[97]⟩ ⟨#[98, 49]⟩ 1 1 4 5 0 0 (x := 4627730092099895296) (r := 4617315517961601024) (t := 0) (by decide +kernel) (w_const (by decide)) (by decide +kernel) (by decide +kernel) (by decide +kernel) (by decide +kernel) (w_const (by decide)) (by decide +kernel) (by decide +kernel) (w_const (by decide)) w
    rw [show settleW 4617315517961601024 (sgI 0) 1 = 4617315517961601024 by decide +kernel, show settleW 4617315517961601024 (sgI 0) 2 = 4617315517961601024 by decide +kernel, show settleW 4617315517961601024 (sgI 0) 0 = 4617315517961601024 by decide +kernel] at h
    exact h
  have c1 : ∀ (w : World) (b : Nat), b = w.heap.size → Calls Tryz.prog 12 #[.slice (some ⟨b, 0, none⟩) 2 2] (w.alloc (.cells #[.string ⟨#[97]⟩, .int .i32 1, .int .i32 1, .int .u8 0, .string ⟨#[98, 49]⟩, .int .i32 4, .int .i32 5, .int .u8 0] 23)) fun e w' => e = .returned (.tuple #[.int .i64 0, .int .i64 0]) ∧ Below (w.alloc (.cells #[.string ⟨#[97]⟩, .int .i32 1, .int .i32 1, .int .u8 0, .string ⟨#[98, 49]⟩, .int .i32 4, .int .i32 5, .int .u8 0] 23)).heap.size (w.alloc (.cells #[.string ⟨#[97]⟩, .int .i32 1, .int .i32 1, .int .u8 0, .string ⟨#[98, 49]⟩, .int .i32 4, .int .i32 5, .int .u8 0] 23)) w' := fun w b hb => by
    subst hb
    have h := check_c (some ⟨w.heap.size, 0, none⟩) 2 [jA, jB] (w.alloc (.cells #[.string ⟨#[97]⟩, .int .i32 1, .int .i32 1, .int .u8 0, .string ⟨#[98, 49]⟩, .int .i32 4, .int .i32 5, .int .u8 0] 23)) (C_blk (m := []) (by simp) (t := 23) (fz := (0, 0)) Array.getElem?_push_size) (by intro j hj; simp at hj; rcases hj with rfl | rfl <;> exact ⟨by decide, by decide, by decide⟩) (by simp)
    rw [show chkL [] [jA, jB] = (0, 0) by decide] at h
    exact h
  have c2 : ∀ (w : World) (b : Nat), b = w.heap.size → Calls Tryz.prog 12 #[.slice (some ⟨b, 0, none⟩) 2 2] (w.alloc (.cells #[.string ⟨#[97]⟩, .int .i32 1, .int .i32 1, .int .u8 0, .string ⟨#[97]⟩, .int .i32 1, .int .i32 1, .int .u8 0] 23)) fun e w' => e = .returned (.tuple #[.int .i64 280, .int .i64 1]) ∧ Below (w.alloc (.cells #[.string ⟨#[97]⟩, .int .i32 1, .int .i32 1, .int .u8 0, .string ⟨#[97]⟩, .int .i32 1, .int .i32 1, .int .u8 0] 23)).heap.size (w.alloc (.cells #[.string ⟨#[97]⟩, .int .i32 1, .int .i32 1, .int .u8 0, .string ⟨#[97]⟩, .int .i32 1, .int .i32 1, .int .u8 0] 23)) w' := fun w b hb => by
    subst hb
    have h := check_c (some ⟨w.heap.size, 0, none⟩) 2 [jA, jA] (w.alloc (.cells #[.string ⟨#[97]⟩, .int .i32 1, .int .i32 1, .int .u8 0, .string ⟨#[97]⟩, .int .i32 1, .int .i32 1, .int .u8 0] 23)) (C_blk (m := []) (by simp) (t := 23) (fz := (0, 0)) Array.getElem?_push_size) (by intro j hj; simp at hj; subst hj; exact ⟨by decide, by decide, by decide⟩) (by simp)
    rw [show chkL [] [jA, jA] = (280, 1) by decide] at h
    exact h
  have fd : ∀ (w : World) (b : Nat), b = w.heap.size → Calls Tryz.prog 18 #[.slice (some ⟨b, 0, none⟩) 2 2, .string ⟨#[98, 49]⟩] (w.alloc (.cells #[.string ⟨#[97]⟩, .int .i32 1, .int .i32 1, .int .u8 0, .string ⟨#[98, 49]⟩, .int .i32 4, .int .i32 5, .int .u8 0] 23)) fun e w' => e = .returned (.tuple #[.int .i64 1, .bool true]) ∧ w.alloc (.cells #[.string ⟨#[97]⟩, .int .i32 1, .int .i32 1, .int .u8 0, .string ⟨#[98, 49]⟩, .int .i32 4, .int .i32 5, .int .u8 0] 23) = w' := fun w b hb => by
    subst hb
    exact find_at (some ⟨w.heap.size, 0, none⟩) 2 [jA, jB] ⟨#[98, 49]⟩ (w.alloc (.cells #[.string ⟨#[97]⟩, .int .i32 1, .int .i32 1, .int .u8 0, .string ⟨#[98, 49]⟩, .int .i32 4, .int .i32 5, .int .u8 0] 23)) (C_blk (m := []) (by simp) (t := 23) (fz := (0, 0)) Array.getElem?_push_size) 1 (by simp) (by simp) (by intro k hk; (have h0 : k = 0 := (by omega)); subst h0; simp [rd_T23, jA, jB, ByteArray.toList_eq]) (by simp [rd_T23, jA, jB, ByteArray.toList_eq])
  have eqs : ∀ w, (Go.binOp .eql 28 (.agg #[.float .f64 4617315517961601024, .float .f64 4617315517961601024]) (.agg #[.float .f64 4617315517961601024, .float .f64 4617315517961601024])).run Tryz.prog w = .ok (.bool true) w := fun _ => by kernel_rfl
  have eqf : (FloatKind.f64.format.order 4617315517961601024 4617315517961601024 == some .eq) = true := by decide +kernel
  go_enter Tryz.func11, Tryz.ntmps11
  go_wp2_with (first
    | (go_at_call 5; refine (ap _).mono ?_; rintro e w1 ⟨rfl, hb1⟩
       have PA := Lib.hid (show w1.heap[w.heap.size]? = some (.cells #[.string ⟨#[97]⟩, .int .i32 1, .int .i32 1, .int .u8 0] 23 (0, 0)) from kb_keep hb1 (kb_alloc Array.getElem?_push_size))
       have PB := Lib.hid (show w1.heap[w.heap.size + 1]? = some (.cells #[.string ⟨#[98, 49]⟩, .int .i32 4, .int .i32 5, .int .u8 0] 23 (0, 0)) by simpa using kb_new hb1)
       have BB := Lib.hid (bl_then (bl_alloc (bl_alloc (Below.refl _ _) _) _) hb1)
       have ca0 := kb_cell (i := 0) PA.out rfl; have ca1 := kb_cell (i := 1) PA.out rfl; have ca2 := kb_cell (i := 2) PA.out rfl; have ca3 := kb_cell (i := 3) PA.out rfl
       have cb0 := kb_cell (i := 0) PB.out rfl; have cb1 := kb_cell (i := 1) PB.out rfl; have cb2 := kb_cell (i := 2) PB.out rfl; have cb3 := kb_cell (i := 3) PB.out rfl
       clear hb1)
    | (go_at_call 7; refine (ln _).mono ?_; rintro e w2 ⟨rfl, hb2⟩
       replace PA := Lib.hid (kb_keep hb2 PA.out)
       replace PB := Lib.hid (kb_keep hb2 PB.out)
       replace BB := Lib.hid (bl_then BB.out hb2)
       clear ca0 ca1 ca2 ca3 cb0 cb1 cb2 cb3 hb2
       have ca0 := kb_cell (i := 0) PA.out rfl; have ca1 := kb_cell (i := 1) PA.out rfl; have ca2 := kb_cell (i := 2) PA.out rfl; have ca3 := kb_cell (i := 3) PA.out rfl
       have cb0 := kb_cell (i := 0) PB.out rfl; have cb1 := kb_cell (i := 1) PB.out rfl; have cb2 := kb_cell (i := 2) PB.out rfl; have cb3 := kb_cell (i := 3) PB.out rfl
       have hy := kb_lt PA.out
       have hz := kb_lt PB.out)
    | (go_at_call 12; refine (c1 _ _ (by simp)).mono ?_; rintro e w3 ⟨rfl, hb⟩
       have PS := Lib.hid (show w3.heap[w2.heap.size]? = some (.cells #[.float .f64 4617315517961601024, .float .f64 4617315517961601024] 28 (0, 0)) from kb_keep hb (kb_alloc Array.getElem?_push_size))
       replace PA := Lib.hid (kb_keep hb (kb_alloc (kb_alloc PA.out)))
       replace PB := Lib.hid (kb_keep hb (kb_alloc (kb_alloc PB.out)))
       replace BB := Lib.hid (bl_then (bl_alloc (bl_alloc BB.out _) _) hb)
       clear ca0 ca1 ca2 ca3 cb0 cb1 cb2 cb3 hb hy hz
       (try clear d0 d1 hx)
       have ca0 := kb_cell (i := 0) PA.out rfl; have ca1 := kb_cell (i := 1) PA.out rfl; have ca2 := kb_cell (i := 2) PA.out rfl; have ca3 := kb_cell (i := 3) PA.out rfl
       have cb0 := kb_cell (i := 0) PB.out rfl; have cb1 := kb_cell (i := 1) PB.out rfl; have cb2 := kb_cell (i := 2) PB.out rfl; have cb3 := kb_cell (i := 3) PB.out rfl
       have hy := kb_lt PA.out
       have hz := kb_lt PB.out
       have d0 := kb_cell (i := 0) PS.out rfl; have d1 := kb_cell (i := 1) PS.out rfl
       have hx := kb_lt PS.out)
    | (go_at_call 12; refine (c2 _ _ (by simp)).mono ?_; rintro e w4 ⟨rfl, hb⟩
       replace PS := Lib.hid (kb_keep hb (kb_alloc PS.out))
       replace PA := Lib.hid (kb_keep hb (kb_alloc PA.out))
       replace PB := Lib.hid (kb_keep hb (kb_alloc PB.out))
       replace BB := Lib.hid (bl_then (bl_alloc BB.out _) hb)
       clear ca0 ca1 ca2 ca3 cb0 cb1 cb2 cb3 hb hy hz
       (try clear d0 d1 hx)
       have ca0 := kb_cell (i := 0) PA.out rfl; have ca1 := kb_cell (i := 1) PA.out rfl; have ca2 := kb_cell (i := 2) PA.out rfl; have ca3 := kb_cell (i := 3) PA.out rfl
       have cb0 := kb_cell (i := 0) PB.out rfl; have cb1 := kb_cell (i := 1) PB.out rfl; have cb2 := kb_cell (i := 2) PB.out rfl; have cb3 := kb_cell (i := 3) PB.out rfl
       have hy := kb_lt PA.out
       have hz := kb_lt PB.out
       have d0 := kb_cell (i := 0) PS.out rfl; have d1 := kb_cell (i := 1) PS.out rfl
       have hx := kb_lt PS.out)
    | (go_at_call 18; refine (fd _ _ (by simp)).mono ?_; rintro e w5 ⟨rfl, rfl⟩))
  go_ret
  exact ⟨rfl, bl_alloc BB.out _⟩
end Go.Proofs.YtgljhgjjenengaaGreatDoor
