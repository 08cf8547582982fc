/- girderlaw18.JointsNumbers answers true. -/
import Derived.Test.YtgljhgjjenengaaGreatDoorG4
namespace Go.Proofs.YtgljhgjjenengaaGreatDoor
open Go Go.RowKit GFl Ieee
open Go.Proofs.YtgljhgjjenengaaGreatDoorW.PrintWords (Kd own_move own_string nums own_slice)
open XJt (S23 k23)
set_option maxRecDepth 100000
attribute [local go_sem] run_f64bits run_f64frombits run_neg_f64 run_store_float

abbrev SJ := S23
theorem joint_info : (Tryz.prog.info? 23).map (fun i => (i.zero, i.size, i.bytes)) = some (some (.agg #[(.string ⟨#[]⟩), (.int .i32 0), (.int .i32 0), (.int .u8 0)]), 4, 32) := by kernel_rfl
theorem n_len (l : List SJ) : (l.flatMap jc).length = l.length * 4 := by
  induction l with
  | nil => rfl
  | cons a l ih => rw [List.flatMap_cons, List.length_append, ih]; simp [jc]; omega
theorem n_one (l : List SJ) : ∀ u ∈ l.flatMap jc, u.oneCell' = true := by
  intro u hu
  obtain ⟨j, _, hj⟩ := List.mem_flatMap.1 hu
  simp [jc] at hj
  rcases hj with rfl | rfl | rfl | rfl <;> rfl
theorem own_reads {w : World} {B : Nat} {v : Value} {l : List SJ} (hx : l.length ≤ 9223372036854775807) (h : w.ownsRow B 23 4 v l.length (l.flatMap jc)) : ∃ A c, v = .slice A l.length c ∧ Kd.C k23 w A l.length l := by
  rcases h.2 with ⟨rfl, h0⟩ | ⟨g, cap, cur, rfl, _, hb, hc, _, hs, ht⟩
  · obtain rfl := List.eq_nil_of_length_eq_zero h0
    exact ⟨none, 0, rfl, Kd.C_nil _ _⟩
  · refine ⟨some ⟨g, 0, none⟩, cap, rfl, rfl, hx, fun _ => ⟨_, rfl, fun j p hj => ⟨jc p, rfl, XJt.k23_mk w p, fun i u hu => ?_⟩⟩⟩
    have hi : i < 4 := (List.getElem?_eq_some_iff.1 hu).1
    have hjl := (List.getElem?_eq_some_iff.1 hj).1
    rw [add_blk]
    refine kb_cell hb ?_
    have h1 : (cur.toList.take (l.length * 4))[j * 4 + i]? = some u := by rw [ht]; exact (jc_at _ j i p hj hi).trans hu
    rw [List.getElem?_take, if_pos (by omega)] at h1
    have h2 : cur[j * 4 + i]? = some u := by simpa using h1
    exact h2
/-- The k-th of the seventeen joints. -/
def numJ (k : Int) : SJ := ⟨strOfNums [97, 97 + k], k, 0, 0⟩
def numL (n : Nat) : List SJ := (List.range n).map fun i : Nat => numJ i
theorem numL_succ (n : Nat) : numL (n + 1) = numL n ++ [numJ n] := by simp [numL, List.range_succ]
theorem numL_len (n : Nat) : (numL n).length = n := by simp [numL]
theorem num_chk : ∀ k, k < 17 → chkL [] (numL k) = (0, 0) := by decide +kernel
instance (j : SJ) : Decidable (okJ j) := by unfold okJ; infer_instance
theorem num_ok : ∀ j ∈ numL 17, okJ j := by decide +kernel
theorem check_long (A : Option Addr) (c n : Nat) (h : 16 < n) (hn : n ≤ 1000) (w : World) : Calls Tryz.prog 12 #[.slice A n c] w fun e w' => e = .returned (.tuple #[.int .i64 3, .int .i64 0]) ∧ Below w.heap.size w w' := by
  go_enter Tryz.func12, Tryz.ntmps12
  go_wp2
  go_ret2
  exact ⟨rfl, Below.refl _ _⟩
theorem kb_second {w : World} {o o' : Obj} : ((w.alloc o).alloc o').heap[w.heap.size + 1]? = some o' := by
  have h : ((w.alloc o).alloc o').heap[(w.alloc o).heap.size]? = some o' := Array.getElem?_push_size
  rw [show (w.alloc o).heap.size = w.heap.size + 1 by simp] at h; exact h
theorem check_own {w : World} {B : Nat} {v : Value} (k : Nat) (hk : k ≤ 17) (h : w.ownsRow B 23 4 v k ((numL k).flatMap jc)) :
    Calls Tryz.prog 12 #[v] w fun e w' => e = .returned (.tuple #[.int .i64 (if k < 17 then 0 else 3), .int .i64 0]) ∧ Below w.heap.size w w' := by
  have e := numL_len k
  obtain ⟨A, c, rfl, hC⟩ := own_reads (l := numL k) (by omega) (by rw [e]; exact h)
  by_cases h17 : k < 17
  · rw [if_pos h17]
    have hc := check_c A c (numL k) w hC (fun j hj => num_ok j (by
      simp only [numL, List.mem_map, List.mem_range] at hj ⊢
      obtain ⟨i, hi, rfl⟩ := hj
      exact ⟨i, by omega, rfl⟩)) (by omega)
    rw [num_chk k h17] at hc
    exact hc
  · rw [if_neg h17]
    exact check_long A c _ (by omega) (by omega) w
/-- The thirteen joints that may not be. -/
def oddL : List SJ := [⟨⟨#[]⟩, 0, 0, 0⟩, ⟨⟨#[65]⟩, 0, 0, 0⟩, ⟨⟨#[49, 97]⟩, 0, 0, 0⟩, ⟨⟨#[97, 98, 99, 100, 101, 102, 103, 104, 105]⟩, 0, 0, 0⟩, ⟨⟨#[97, 95]⟩, 0, 0, 0⟩, ⟨⟨#[97, 32]⟩, 0, 0, 0⟩, ⟨⟨#[195, 164]⟩, 0, 0, 0⟩, ⟨⟨#[97]⟩, 1048577, 0, 0⟩, ⟨⟨#[97]⟩, 0, (-1048577), 0⟩, ⟨⟨#[97]⟩, (-2147483648), 0, 0⟩, ⟨⟨#[97]⟩, 0, 2147483647, 0⟩, ⟨⟨#[97]⟩, 0, 0, 8⟩, ⟨⟨#[97]⟩, 0, 0, 255⟩]
theorem odd_lit : (#[.string ⟨#[]⟩, .int .i32 0, .int .i32 0, .int .u8 0, .string ⟨#[65]⟩, .int .i32 0, .int .i32 0, .int .u8 0, .string ⟨#[49, 97]⟩, .int .i32 0, .int .i32 0, .int .u8 0, .string ⟨#[97, 98, 99, 100, 101, 102, 103, 104, 105]⟩, .int .i32 0, .int .i32 0, .int .u8 0, .string ⟨#[97, 95]⟩, .int .i32 0, .int .i32 0, .int .u8 0, .string ⟨#[97, 32]⟩, .int .i32 0, .int .i32 0, .int .u8 0, .string ⟨#[195, 164]⟩, .int .i32 0, .int .i32 0, .int .u8 0, .string ⟨#[97]⟩, .int .i32 1048577, .int .i32 0, .int .u8 0, .string ⟨#[97]⟩, .int .i32 0, .int .i32 (-1048577), .int .u8 0, .string ⟨#[97]⟩, .int .i32 (-2147483648), .int .i32 0, .int .u8 0, .string ⟨#[97]⟩, .int .i32 0, .int .i32 2147483647, .int .u8 0, .string ⟨#[97]⟩, .int .i32 0, .int .i32 0, .int .u8 8, .string ⟨#[97]⟩, .int .i32 0, .int .i32 0, .int .u8 255] : Array Value) = (oddL.flatMap jc).toArray := rfl
def jZ : SJ := ⟨⟨#[122]⟩, 9, 0, 0⟩
theorem odd_chk : ∀ k : Nat, k < 13 → chkL [] [jZ, XJt.rd_T23 oddL k] = (280, 1) ∧ okJ (XJt.rd_T23 oddL k) := by decide +kernel
theorem pair_C {w : World} {j1 j2 : SJ} : Kd.C k23 (w.alloc (.cells #[.string j1.f0, .int .i32 j1.f1, .int .i32 j1.f2, .int .u8 j1.f3, .string j2.f0, .int .i32 j2.f1, .int .i32 j2.f2, .int .u8 j2.f3] 23)) (some ⟨w.heap.size, 0, none⟩) [j1, j2].length [j1, j2] :=
  C_blk (m := []) (by simp) (t := 23) (fz := (0, 0)) Array.getElem?_push_size
theorem check_pair (j1 j2 : SJ) {e i : Int} (h : chkL [] [j1, j2] = (e, i)) (h1 : okJ j1) (h2 : okJ j2) (w : World) (b : Nat) (hb : b = w.heap.size) : Calls Tryz.prog 12 #[.slice (some ⟨b, 0, none⟩) 2 2] (w.alloc (.cells #[.string j1.f0, .int .i32 j1.f1, .int .i32 j1.f2, .int .u8 j1.f3, .string j2.f0, .int .i32 j2.f1, .int .i32 j2.f2, .int .u8 j2.f3] 23)) fun e' w' => e' = .returned (.tuple #[.int .i64 e, .int .i64 i]) ∧ Below (w.alloc (.cells #[.string j1.f0, .int .i32 j1.f1, .int .i32 j1.f2, .int .u8 j1.f3, .string j2.f0, .int .i32 j2.f1, .int .i32 j2.f2, .int .u8 j2.f3] 23)).heap.size (w.alloc (.cells #[.string j1.f0, .int .i32 j1.f1, .int .i32 j1.f2, .int .u8 j1.f3, .string j2.f0, .int .i32 j2.f1, .int .i32 j2.f2, .int .u8 j2.f3] 23)) w' := by
  subst hb
  have hc := check_c (some ⟨w.heap.size, 0, none⟩) 2 [j1, j2] _ (pair_C (w := w) (j1 := j1) (j2 := j2)) (by intro j hj; simp at hj; rcases hj with rfl | rfl <;> assumption) (by simp)
  rw [h] at hc
  exact hc
set_option maxHeartbeats 2000000 in
theorem jointsNumbers_r {W : World} : Calls Tryz.prog 4 #[] W fun e w' => e = .returned (.bool true) ∧ Below W.heap.size W w' := by
  obtain ⟨i0, hi, hz0, hz1, hz2⟩ := info_parts joint_info
  go_enter Tryz.func4, Tryz.ntmps4
  go_wp2
  go_loopw [1, 2] (fun s v wr => ∃ k : Nat, k ≤ 17 ∧ v = .int .i64 k ∧ wr.ownsRow W.heap.size 23 4 s k ((numL k).flatMap jc) ∧ Below W.heap.size W wr) (fun _ v _ => 17 - (intOf v).toNat)
  case atStart => exact ⟨0, by omega, rfl, World.ownsRow_nil _ _ _ _, Below.refl _ _⟩
  case round =>
    obtain ⟨k, hk, rfl, hown, hb⟩ := hrel
    have HB := Lib.hid hb
    have ck := check_own k hk hown
    clear hb
    by_cases hlt : k < 17
    · rw [if_pos hlt] at ck
      have cv : ∀ w : World, (convert 39 9 (.slice (some ⟨w.heap.size, 0, none⟩) 2 2)).run Tryz.prog (w.alloc (.cells #[.int .u8 97, .int .u8 (97 + (k : Int))] 5)) = .ok (.string (numJ k).f0) (w.alloc (.cells #[.int .u8 97, .int .u8 (97 + (k : Int))] 5)) := fun w =>
        own_string (base := 0) (n := 2) (e' := 5) (xs := [97, 97 + (k : Int)]) Tryz.underlying39 Tryz.underlying5 Tryz.underlying9 ⟨rfl, .inr ⟨w.heap.size, 2, _, rfl, Nat.zero_le _, Array.getElem?_push_size, Nat.le_refl _, by decide, rfl, rfl⟩⟩
      go_wp2_with (first
        | (go_at_call 12; refine ck.mono ?_; rintro e w2 ⟨rfl, hb2⟩
           replace HB := Lib.hid (bl_then HB.out hb2)
           have own2 := own_move (w1 := w2) hown (fun b hb => hb2.block b (hown.lt b hb).2)
           clear hb2 hown ck)
        | (at_builtin; go_loud (refine wpList_append_own _ rfl _ _ 35 rfl W.heap.size 23 i0 _ 4 32 Tryz.underlying35 hi hz0 hz1 hz2 rfl (by decide) _ k ((numL k).flatMap jc) rfl ((own2.alloc _).alloc _) ⟨w2.heap.size + 1, 0, none⟩ 1 1 (jc (numJ k)) rfl rfl (fun m u hu => by rw [add_blk]; exact kb_cell (c := #[.string (numJ k).f0, .int .i32 k, .int .i32 0, .int .u8 0]) kb_second (by simpa [jc, numJ] using hu)) (by simpa using n_one [numJ k]) (by unfold maxLen; omega) (by omega) (by have := HB.out.size; simp; omega) ?_); intro v' w3 hown3 hgrow3 _
           replace HB := Lib.hid ((bl_alloc (bl_alloc HB.out _) _).grown hgrow3 (by have := HB.out.size; simp; omega) (fun b h => (own2.lt b h).1))
           clear own2 hgrow3))
      go_roundw
      case rel => exact ⟨k + 1, by omega, by go_num, by rw [numL_succ, List.flatMap_append]; simpa using hown3, HB.out⟩
      case measure => simp [intOf]; omega
    · obtain rfl : k = 17 := by omega
      rw [if_neg (by omega)] at ck
      go_wp2_with (first
        | (go_at_call 12; refine ck.mono ?_; rintro e w2 ⟨rfl, hb2⟩
           replace HB := Lib.hid (bl_then HB.out hb2)
           clear hb2 hown ck))
      rw [odd_lit]
      have PO := Lib.hid (show Kd.C k23 (w2.alloc (.cells (oddL.flatMap jc).toArray 23)) (some ⟨w2.heap.size, 0, none⟩) oddL.length oddL from C_blk (m := []) (by decide) (t := 23) (fz := (0, 0)) (by rw [List.append_nil]; exact Array.getElem?_push_size))
      replace HB := Lib.hid (bl_alloc HB.out (.cells (oddL.flatMap jc).toArray 23))
      generalize w2.alloc (.cells (oddL.flatMap jc).toArray 23) = w3 at *
      generalize (⟨w2.heap.size, 0, none⟩ : Addr) = ad at *
      go_loopw [8] (fun v wr => ∃ k : Nat, k ≤ 13 ∧ v = .int .i64 k ∧ Hid (Kd.C k23 wr (some ad) oddL.length oddL) ∧ Hid (Below W.heap.size W wr)) (fun v _ => 13 - (intOf v).toNat)
      case atStart => exact ⟨0, by omega, rfl, PO.out, HB.out⟩
      case round =>
        obtain ⟨k, hk, rfl, hc, hb⟩ := hrel
        clear PO HB
        have PC := Lib.hid (show Kd.C k23 wr (some ad) oddL.length oddL from hc)
        have HB := Lib.hid (show Below W.heap.size W wr from hb)
        clear hc hb
        by_cases hlt : k < 13
        · obtain ⟨hch, hok⟩ := odd_chk k hlt
          have cells : ∀ w : World, Kd.C k23 w (some ad) oddL.length oddL → w.cell? (ad.add (k * 4)) = some (.string (XJt.rd_T23 oddL k).f0) ∧ w.cell? ⟨(ad.add (k * 4)).block, (ad.add (k * 4)).off + 1, none⟩ = some (.int .i32 (XJt.rd_T23 oddL k).f1) ∧ w.cell? ⟨(ad.add (k * 4)).block, (ad.add (k * 4)).off + 2, none⟩ = some (.int .i32 (XJt.rd_T23 oddL k).f2) ∧ w.cell? ⟨(ad.add (k * 4)).block, (ad.add (k * 4)).off + 3, none⟩ = some (.int .u8 (XJt.rd_T23 oddL k).f3) := fun w h => by
            obtain ⟨ad', e, h0, h1, h2, h3⟩ := XJt.at_T23 h (k : Int) (by omega) (by have : oddL.length = 13 := rfl; omega)
            cases e
            rw [Int.toNat_natCast] at h0 h1 h2 h3
            exact ⟨h0, h1, h2, h3⟩
          generalize XJt.rd_T23 oddL k = j at *
          obtain ⟨s, x, y, f⟩ := j
          simp only at cells
          have ck2 := check_pair jZ ⟨s, x, y, f⟩ hch (by decide) hok
          have CL := Lib.hid cells
          obtain ⟨h0, h1, h2, h3⟩ := cells _ PC.out
          have ja : ∀ w, Calls Tryz.prog 3 #[.agg #[.string s, .int .i32 x, .int .i32 y, .int .u8 f], .agg #[.string ⟨#[]⟩, .int .i32 1, .int .i32 0, .int .u8 0]] w fun e w' => e = .returned (.bool true) ∧ Below w.heap.size w w' := fun w => jointsApart_c s ⟨#[]⟩ x y 1 0 f 0 w
          have jb : ∀ w, Calls Tryz.prog 3 #[.agg #[.string ⟨#[]⟩, .int .i32 0, .int .i32 1, .int .u8 0], .agg #[.string s, .int .i32 x, .int .i32 y, .int .u8 f]] w fun e w' => e = .returned (.bool true) ∧ Below w.heap.size w w' := fun w => jointsApart_c ⟨#[]⟩ s 0 1 x y 0 f w
          clear cells hch hok
          go_wp2_with (first
            | (go_at_call 12; refine (ck2 _ _ (by simp)).mono ?_; rintro e w4 ⟨rfl, hb4⟩
               replace PC := Lib.hid (Kd.C_below (Kd.C_below PC.out (bl_alloc (Below.refl _ _) _)) hb4)
               replace HB := Lib.hid (bl_then (bl_alloc HB.out _) hb4)
               clear hb4 h0 h1 h2 h3
               obtain ⟨h0, h1, h2, h3⟩ := CL.out _ PC.out)
            | (go_at_call 3; with_reducible refine (ja _).mono ?_; rintro e w5 ⟨rfl, hb5⟩
               replace PC := Lib.hid (Kd.C_below PC.out hb5)
               replace HB := Lib.hid (bl_then HB.out hb5)
               clear hb5 h0 h1 h2 h3
               obtain ⟨h0, h1, h2, h3⟩ := CL.out _ PC.out)
            | (go_at_call 3; with_reducible refine (jb _).mono ?_; rintro e w6 ⟨rfl, hb6⟩
               replace PC := Lib.hid (Kd.C_below PC.out hb6)
               replace HB := Lib.hid (bl_then HB.out hb6)
               clear hb6 h0 h1 h2 h3))
          go_roundw
          case rel => exact ⟨k + 1, by omega, by go_num, PC.out, HB.out⟩
          case measure => simp [intOf]; omega
        · obtain rfl : k = 13 := by omega
          have c1 := check_pair ⟨⟨#[97, 98, 99, 100, 101, 102, 103, 104]⟩, 1048576, -1048576, 7⟩ ⟨⟨#[97, 48, 49, 50, 51, 52, 53, 54]⟩, -1048576, 1048576, 0⟩ (e := 0) (i := 0) (by decide +kernel) (by decide +kernel) (by decide +kernel)
          have c2 := check_pair ⟨⟨#[97]⟩, 1, 0, 0⟩ ⟨⟨#[98]⟩, 1, 0, 0⟩ (e := 280) (i := 1) (by decide +kernel) (by decide +kernel) (by decide +kernel)
          have ap : ∀ w, Calls Tryz.prog 5 #[.agg #[.string ⟨#[]⟩, .int .i32 (-1048576), .int .i32 (-1048576), .int .u8 0], .agg #[.string ⟨#[]⟩, .int .i32 1048576, .int .i32 1048576, .int .u8 0]] w fun e w' => e = .returned (.tuple #[.int .i64 2097152, .int .i64 2097152, .int .i64 8796093022208]) ∧ Below w.heap.size w w' := fun w => apart_c ⟨#[]⟩ ⟨#[]⟩ (-1048576) (-1048576) 1048576 1048576 0 0 w
          clear PC
          go_wp2_with (first
            | (go_at_call 12; refine (c1 _ _ (by simp)).mono ?_; rintro e w4 ⟨rfl, hb4⟩
               replace HB := Lib.hid (bl_then (bl_alloc HB.out _) hb4)
               clear hb4)
            | (go_at_call 12; refine (c2 _ _ (by simp)).mono ?_; rintro e w5 ⟨rfl, hb5⟩
               replace HB := Lib.hid (bl_then (bl_alloc HB.out _) hb5)
               clear hb5)
            | (go_at_call 5; refine (ap _).mono ?_; rintro e w6 ⟨rfl, hb6⟩
               replace HB := Lib.hid (bl_then HB.out hb6)
               clear hb6)
            | (go_at_call 11; refine (awake_c _).mono ?_; rintro e w7 ⟨rfl, hb7⟩
               replace HB := Lib.hid (bl_then HB.out hb7)))
          go_ret
          exact ⟨rfl, HB.out⟩
end Go.Proofs.YtgljhgjjenengaaGreatDoor
