/- What joints' Apart and Length answer. -/
import Derived.Test.YtgljhgjjenengaaGreatDoorJk
import Derived.Test.YtgljhgjjenengaaGreatDoorR3
namespace Go.Proofs.YtgljhgjjenengaaGreatDoor
open Go Go.RowKit GFl Ieee
set_option maxRecDepth 100000
attribute [local go_sem] run_f64bits run_f64frombits run_neg_f64 run_store_float

/-- Are two places of a size that may be? -/
def near4 (x1 y1 x2 y2 : Int) : Bool := nearB x1 && (nearB y1 && (nearB x2 && nearB y2))
theorem frowI4 (x1 y1 x2 y2 : Int) (w : World) (t : TypeId) : ∀ k, k < [x1, y1, x2, y2].length → (w.alloc (.cells #[.int .i32 x1, .int .i32 y1, .int .i32 x2, .int .i32 y2] t)).cell? ⟨w.heap.size, k, none⟩ = some (.int .i32 ([x1, y1, x2, y2].getD k 0)) := fun k hk => by
  have h : k = 0 ∨ k = 1 ∨ k = 2 ∨ k = 3 := by simp at hk; omega
  rcases h with rfl | rfl | rfl | rfl <;> exact kb_cell (w := w.alloc (.cells #[.int .i32 x1, .int .i32 y1, .int .i32 x2, .int .i32 y2] t)) Array.getElem?_push_size rfl
theorem sq_bd {d : Int} (h1 : -2097152 ≤ d) (h2 : d ≤ 2097152) : 0 ≤ d * d ∧ d * d ≤ 4398046511104 := by
  have h := Int.mul_nonneg (show 0 ≤ d + 2097152 by omega) (show 0 ≤ 2097152 - d by omega)
  rw [Int.add_mul, Int.mul_sub, Int.mul_sub] at h
  refine ⟨?_, by omega⟩
  rcases Int.le_total 0 d with h0 | h0
  · exact Int.mul_nonneg h0 h0
  · exact Int.mul_nonneg_of_nonpos_of_nonpos h0 h0
theorem wrap_sq {a b : Int} (ha : -2097152 ≤ a ∧ a ≤ 2097152) (hb : -2097152 ≤ b ∧ b ≤ 2097152) : wrap64 (wrap64 (a * a) + wrap64 (b * b)) = a * a + b * b := by
  have h1 := sq_bd ha.1 ha.2
  have h2 := sq_bd hb.1 hb.2
  generalize a * a = p at *
  generalize b * b = q at *
  unfold wrap64
  omega
theorem ret_int3 {k q r : IntKind} {a b c d e f : Int} (h : a = b) (h' : c = d) (h'' : e = f) : Ending.returned (.tuple #[.int k a, .int q c, .int r e]) = .returned (.tuple #[.int k b, .int q d, .int r f]) := by rw [h, h', h'']
theorem apart_t (s1 s2 : ByteArray) (x1 y1 x2 y2 f1 f2 : Int) (hn : near4 x1 y1 x2 y2 = true) (w : World) :
    Calls Tryz.prog 5 #[.agg #[.string s1, .int .i32 x1, .int .i32 y1, .int .u8 f1], .agg #[.string s2, .int .i32 x2, .int .i32 y2, .int .u8 f2]] w fun e w' =>
      e = .returned (.tuple #[.int .i64 (x2 - x1), .int .i64 (y2 - y1), .int .i64 ((x2 - x1) * (x2 - x1) + (y2 - y1) * (y2 - y1))]) ∧ Below w.heap.size w w' := by
  have nr : ∀ (w : World) (b : Nat), b = w.heap.size → Calls Tryz.prog 13 #[.slice (some ⟨b, 0, none⟩) 4 4] (w.alloc (.cells #[.int .i32 x1, .int .i32 y1, .int .i32 x2, .int .i32 y2] 21)) fun e w' => e = .returned (.bool true) ∧ w.alloc (.cells #[.int .i32 x1, .int .i32 y1, .int .i32 x2, .int .i32 y2] 21) = w' := fun w b hb => hb ▸
    (near_c w.heap.size [x1, y1, x2, y2] (by simp) _ (frowI4 x1 y1 x2 y2 w _)).mono fun _ _ h => ⟨by rw [h.1, ← hn]; simp [near4], h.2⟩
  have hb : (-1048576 ≤ x1 ∧ x1 ≤ 1048576) ∧ (-1048576 ≤ y1 ∧ y1 ≤ 1048576) ∧ (-1048576 ≤ x2 ∧ x2 ≤ 1048576) ∧ (-1048576 ≤ y2 ∧ y2 ≤ 1048576) := by
    unfold near4 nearB at hn; simpa using hn
  obtain ⟨⟨b1, b2⟩, ⟨b3, b4⟩, ⟨b5, b6⟩, b7, b8⟩ := hb
  clear hn
  go_enter Tryz.func5, Tryz.ntmps5
  go_wp2_with (first | (go_at_call 13; refine (nr _ _ (by simp)).mono ?_; rintro e w' ⟨rfl, rfl⟩))
  go_quiet (fail)
  go_wp2
  go_ret3
  exact ⟨ret_int3 rfl rfl (wrap_sq ⟨by omega, by omega⟩ ⟨by omega, by omega⟩), by repeat' (first | (with_reducible exact Below.refl _ _) | (with_reducible refine bl_alloc ?_ _) | (with_reducible refine bl_drewN ?_ _) | (with_reducible refine bl_drew ?_) | (with_reducible refine bl_set ?_ _ (by simp)))⟩
theorem apart_f (s1 s2 : ByteArray) (x1 y1 x2 y2 f1 f2 : Int) (hn : near4 x1 y1 x2 y2 = false) (w : World) :
    Calls Tryz.prog 5 #[.agg #[.string s1, .int .i32 x1, .int .i32 y1, .int .u8 f1], .agg #[.string s2, .int .i32 x2, .int .i32 y2, .int .u8 f2]] w fun e w' =>
      e = .returned (.tuple #[.int .i64 0, .int .i64 0, .int .i64 0]) ∧ Below w.heap.size w w' := by
  have nr : ∀ (w : World) (b : Nat), b = w.heap.size → Calls Tryz.prog 13 #[.slice (some ⟨b, 0, none⟩) 4 4] (w.alloc (.cells #[.int .i32 x1, .int .i32 y1, .int .i32 x2, .int .i32 y2] 21)) fun e w' => e = .returned (.bool false) ∧ w.alloc (.cells #[.int .i32 x1, .int .i32 y1, .int .i32 x2, .int .i32 y2] 21) = w' := fun w b hb => hb ▸
    (near_c w.heap.size [x1, y1, x2, y2] (by simp) _ (frowI4 x1 y1 x2 y2 w _)).mono fun _ _ h => ⟨by rw [h.1, ← hn]; simp [near4], h.2⟩
  clear hn
  go_enter Tryz.func5, Tryz.ntmps5
  go_wp2_with (first | (go_at_call 13; refine (nr _ _ (by simp)).mono ?_; rintro e w' ⟨rfl, rfl⟩))
  go_ret3
  exact ⟨rfl, by repeat' (first | (with_reducible exact Below.refl _ _) | (with_reducible refine bl_alloc ?_ _) | (with_reducible refine bl_drewN ?_ _) | (with_reducible refine bl_drew ?_) | (with_reducible refine bl_set ?_ _ (by simp)))⟩
/-- How far b is from a, and the square. -/
def apI (x1 y1 x2 y2 : Int) : Int := if near4 x1 y1 x2 y2 then (x2 - x1) * (x2 - x1) + (y2 - y1) * (y2 - y1) else 0
def apX (x1 y1 x2 y2 : Int) : Int := if near4 x1 y1 x2 y2 then x2 - x1 else 0
def apY (x1 y1 x2 y2 : Int) : Int := if near4 x1 y1 x2 y2 then y2 - y1 else 0
theorem apart_c (s1 s2 : ByteArray) (x1 y1 x2 y2 f1 f2 : Int) (w : World) :
    Calls Tryz.prog 5 #[.agg #[.string s1, .int .i32 x1, .int .i32 y1, .int .u8 f1], .agg #[.string s2, .int .i32 x2, .int .i32 y2, .int .u8 f2]] w fun e w' =>
      e = .returned (.tuple #[.int .i64 (apX x1 y1 x2 y2), .int .i64 (apY x1 y1 x2 y2), .int .i64 (apI x1 y1 x2 y2)]) ∧ Below w.heap.size w w' := by
  unfold apX apY apI
  cases hn : near4 x1 y1 x2 y2
  · simpa using apart_f s1 s2 x1 y1 x2 y2 f1 f2 hn w
  · simpa using apart_t s1 s2 x1 y1 x2 y2 f1 f2 hn w
theorem length_c (s1 s2 : ByteArray) (x1 y1 x2 y2 f1 f2 : Int) {x r t : Nat} (hx0 : floatOfInt .f64 (apI x1 y1 x2 y2) = x) (hx : W64 x) (h0 : 0 < plc x) (hf : fin x = true) (hp : plainF x = true) (hs : double.sqrt x = some r) (hr : W64 r) (hrn : rg r ≤ 9218868437227405312) (ht : double.fma (fneg r) r x = some t) (hw : W64 t) (w : World) :
    Calls Tryz.prog 7 #[.agg #[.string s1, .int .i32 x1, .int .i32 y1, .int .u8 f1], .agg #[.string s2, .int .i32 x2, .int .i32 y2, .int .u8 f2]] w fun e w' =>
      e = .returned (.tuple #[.agg #[.float .f64 (settleW r (sgI t) 1), .float .f64 (settleW r (sgI t) 2)], .float .f64 (settleW r (sgI t) 0)]) ∧ Below w.heap.size w w' := by
  have sq : ∀ m w, Calls Tryz.prog 15 #[.float .f64 x, .int .i8 m] w fun e w' => e = .returned (.float .f64 (settleW r (sgI t) (wayI m))) ∧ Below w.heap.size w w' := fun m w => rsqrt_c m hx h0 hf hp hs hr hrn ht hw w
  have ap := apart_c s1 s2 x1 y1 x2 y2 f1 f2
  have X0 := Lib.hid hx0
  generalize apX x1 y1 x2 y2 = dx at *
  generalize apY x1 y1 x2 y2 = dy at *
  generalize apI x1 y1 x2 y2 = n at *
  have hx1 := X0.out
  clear hx h0 hf hp hs hr hrn ht hw hx0
  go_enter Tryz.func7, Tryz.ntmps7
  go_wp2_with (first
    | (go_at_call 5; refine (ap _).mono ?_; rintro e w1 ⟨rfl, hb1⟩; have PR := Lib.hid (show w1.heap[w.heap.size + 1 + 1]? = some (.cells #[.float .f64 0, .float .f64 0] 28) by simpa using kb_new hb1); have BB := Lib.hid (bl_then (bl_alloc (bl_alloc (bl_alloc (Below.refl _ _) _) _) _) hb1); clear hb1)
    | (go_at_call 15; refine (sq _ _).mono ?_; rintro e w2 ⟨rfl, hb2⟩; replace PR := Lib.hid (kb_keep hb2 PR.out); replace BB := Lib.hid (bl_then BB.out hb2); clear hb2; (try clear c0 c1 z0 z1); have c0 := kb_cell (i := 0) PR.out rfl; have c1 := kb_cell (i := 1) PR.out rfl; have z0 := kb_frozen PR.out 0; have z1 := kb_frozen PR.out 1))
  refine bodyPost_ret (v := .tuple #[.agg #[.float .f64 (settleW r (sgI t) (wayI 1)), .float .f64 (settleW r (sgI t) (wayI 2))], .float .f64 (settleW r (sgI t) (wayI 0))]) (by simp [results, Tryz.results7, go_sem, c0, c1]) rfl ⟨rfl, ?_⟩
  exact bl_set (bl_set BB.out _ (by simp; omega)) _ (by simp; omega)
end Go.Proofs.YtgljhgjjenengaaGreatDoor
