/- girderref18's Apart and Length, girderkit's SameFloat and SameSpan, and the law JointsApart. -/
import Derived.Test.YtgljhgjjenengaaGreatDoorG2
import Derived.Test.YtgljhgjjenengaaGreatDoorJw
namespace Go.Proofs.YtgljhgjjenengaaGreatDoor
open Go Go.RowKit GFl Ieee
set_option maxRecDepth 100000
attribute [local go_sem] run_f64bits run_f64frombits run_neg_f64 run_store_float

theorem g_near_c (x : Int) (w : World) : Calls Tryz.prog 14 #[.int .i32 x] w fun e w' => e = .returned (.bool (nearB x)) ∧ w = w' := by
  have hs : nearB x = (decide (-1048576 ≤ x) && decide (x ≤ 1048576)) := by unfold nearB; grind
  rw [hs]
  go_enter Tryz.func14, Tryz.ntmps14
  go_wp2
  all_goals go_ret
  all_goals exact ⟨ret_bool (by grind), rfl⟩
theorem g_apart_t (s1 s2 : ByteArray) (x1 y1 x2 y2 f1 f2 : Int) (hn : near4 x1 y1 x2 y2 = true) (w : World) :
    Calls Tryz.prog 6 #[.agg #[.string s1, .int .i32 x1, .int .i32 y1, .int .u8 f1], .agg #[.string s2, .int .i32 x2, .int .i32 y2, .int .u8 f2]] w fun e w' =>
      e = .returned (.tuple #[.int .i64 (x2 - x1), .int .i64 (y2 - y1), .int .i64 ((x2 - x1) * (x2 - x1) + (y2 - y1) * (y2 - y1))]) ∧ Below w.heap.size w w' := by
  have hb0 : nearB x1 = true ∧ nearB y1 = true ∧ nearB x2 = true ∧ nearB y2 = true := by unfold near4 at hn; simpa using hn
  obtain ⟨h1, h2, h3, h4⟩ := hb0
  have nr : ∀ (x : Int) (w : World), nearB x = true → Calls Tryz.prog 14 #[.int .i32 x] w fun e w' => e = .returned (.bool true) ∧ w = w' := fun x w h => (g_near_c x w).mono fun _ _ h' => ⟨by rw [h'.1, h], h'.2⟩
  have hb : (-1048576 ≤ x1 ∧ x1 ≤ 1048576) ∧ (-1048576 ≤ y1 ∧ y1 ≤ 1048576) ∧ (-1048576 ≤ x2 ∧ x2 ≤ 1048576) ∧ (-1048576 ≤ y2 ∧ y2 ≤ 1048576) := by
    unfold near4 nearB at hn; simpa using hn
  obtain ⟨⟨b1, b2⟩, ⟨b3, b4⟩, ⟨b5, b6⟩, b7, b8⟩ := hb
  clear hn
  go_enter Tryz.func6, Tryz.ntmps6
  go_wp2_with (first | (go_at_call 14; refine (nr _ _ (by assumption)).mono ?_; rintro e w' ⟨rfl, rfl⟩))
  go_ret3
  exact ⟨ret_int3 rfl rfl (wrap_sq ⟨by omega, by omega⟩ ⟨by omega, by omega⟩), by repeat' (first | (with_reducible exact Below.refl _ _) | (with_reducible refine bl_alloc ?_ _) | (with_reducible refine bl_drewN ?_ _) | (with_reducible refine bl_drew ?_) | (with_reducible refine bl_set ?_ _ (by simp)))⟩
theorem g_apart_f (s1 s2 : ByteArray) (x1 y1 x2 y2 f1 f2 : Int) (hn : near4 x1 y1 x2 y2 = false) (w : World) :
    Calls Tryz.prog 6 #[.agg #[.string s1, .int .i32 x1, .int .i32 y1, .int .u8 f1], .agg #[.string s2, .int .i32 x2, .int .i32 y2, .int .u8 f2]] w fun e w' =>
      e = .returned (.tuple #[.int .i64 0, .int .i64 0, .int .i64 0]) ∧ Below w.heap.size w w' := by
  have nr : ∀ (x : Int) (b : Bool) (w : World), nearB x = b → Calls Tryz.prog 14 #[.int .i32 x] w fun e w' => e = .returned (.bool b) ∧ w = w' := fun x b w h => (g_near_c x w).mono fun _ _ h' => ⟨by rw [h'.1, h], h'.2⟩
  unfold near4 at hn
  cases h1 : nearB x1
  · clear hn
    go_enter Tryz.func6, Tryz.ntmps6
    go_wp2_with (first | (go_at_call 14; refine (nr _ _ _ (by assumption)).mono ?_; rintro e w' ⟨rfl, rfl⟩))
    go_ret3
    exact ⟨rfl, by repeat' (first | (with_reducible exact Below.refl _ _) | (with_reducible refine bl_alloc ?_ _) | (with_reducible refine bl_drewN ?_ _) | (with_reducible refine bl_drew ?_) | (with_reducible refine bl_set ?_ _ (by simp)))⟩
  · cases h2 : nearB y1
    · clear hn
      go_enter Tryz.func6, Tryz.ntmps6
      go_wp2_with (first | (go_at_call 14; refine (nr _ _ _ (by assumption)).mono ?_; rintro e w' ⟨rfl, rfl⟩))
      go_ret3
      exact ⟨rfl, by repeat' (first | (with_reducible exact Below.refl _ _) | (with_reducible refine bl_alloc ?_ _) | (with_reducible refine bl_drewN ?_ _) | (with_reducible refine bl_drew ?_) | (with_reducible refine bl_set ?_ _ (by simp)))⟩
    · cases h3 : nearB x2
      · clear hn
        go_enter Tryz.func6, Tryz.ntmps6
        go_wp2_with (first | (go_at_call 14; refine (nr _ _ _ (by assumption)).mono ?_; rintro e w' ⟨rfl, rfl⟩))
        go_ret3
        exact ⟨rfl, by repeat' (first | (with_reducible exact Below.refl _ _) | (with_reducible refine bl_alloc ?_ _) | (with_reducible refine bl_drewN ?_ _) | (with_reducible refine bl_drew ?_) | (with_reducible refine bl_set ?_ _ (by simp)))⟩
      · cases h4 : nearB y2
        · clear hn
          go_enter Tryz.func6, Tryz.ntmps6
          go_wp2_with (first | (go_at_call 14; refine (nr _ _ _ (by assumption)).mono ?_; rintro e w' ⟨rfl, rfl⟩))
          go_ret3
          exact ⟨rfl, by repeat' (first | (with_reducible exact Below.refl _ _) | (with_reducible refine bl_alloc ?_ _) | (with_reducible refine bl_drewN ?_ _) | (with_reducible refine bl_drew ?_) | (with_reducible refine bl_set ?_ _ (by simp)))⟩
        · rw [h1, h2, h3, h4] at hn; cases hn
theorem g_apart_c (s1 s2 : ByteArray) (x1 y1 x2 y2 f1 f2 : Int) (w : World) :
    Calls Tryz.prog 6 #[.agg #[.string s1, .int .i32 x1, .int .i32 y1, .int .u8 f1], .agg #[.string s2, .int .i32 x2, .int .i32 y2, .int .u8 f2]] w fun e w' =>
      e = .returned (.tuple #[.int .i64 (apX x1 y1 x2 y2), .int .i64 (apY x1 y1 x2 y2), .int .i64 (apI x1 y1 x2 y2)]) ∧ Below w.heap.size w w' := by
  unfold apX apY apI
  cases hn : near4 x1 y1 x2 y2
  · simpa using g_apart_f s1 s2 x1 y1 x2 y2 f1 f2 hn w
  · simpa using g_apart_t s1 s2 x1 y1 x2 y2 f1 f2 hn w
theorem apI_nat (x1 y1 x2 y2 : Int) : ∃ n : Nat, apI x1 y1 x2 y2 = (n : Int) ∧ n < 9007199254740992 := by
  unfold apI
  cases hn : near4 x1 y1 x2 y2
  · exact ⟨0, by simp, by decide⟩
  · rw [if_pos rfl]
    have hb : (-1048576 ≤ x1 ∧ x1 ≤ 1048576) ∧ (-1048576 ≤ y1 ∧ y1 ≤ 1048576) ∧ (-1048576 ≤ x2 ∧ x2 ≤ 1048576) ∧ (-1048576 ≤ y2 ∧ y2 ≤ 1048576) := by
      unfold near4 nearB at hn; simpa using hn
    obtain ⟨⟨b1, b2⟩, ⟨b3, b4⟩, ⟨b5, b6⟩, b7, b8⟩ := hb
    have q1 := sq_bd (d := x2 - x1) (by omega) (by omega)
    have q2 := sq_bd (d := y2 - y1) (by omega) (by omega)
    exact ⟨((x2 - x1) * (x2 - x1) + (y2 - y1) * (y2 - y1)).toNat, by omega, by omega⟩
/-- Length, by whatever the root answers. -/
theorem length_g (s1 s2 : ByteArray) (x1 y1 x2 y2 f1 f2 : Int) {x : Nat} (a b c : Nat) (hx0 : floatOfInt .f64 (apI x1 y1 x2 y2) = x)
    (q1 : ∀ w, Calls Tryz.prog 15 #[.float .f64 x, .int .i8 1] w fun e w' => e = .returned (.float .f64 a) ∧ Below w.heap.size w w')
    (q2 : ∀ w, Calls Tryz.prog 15 #[.float .f64 x, .int .i8 2] w fun e w' => e = .returned (.float .f64 b) ∧ Below w.heap.size w w')
    (q3 : ∀ w, Calls Tryz.prog 15 #[.float .f64 x, .int .i8 0] w fun e w' => e = .returned (.float .f64 c) ∧ Below w.heap.size w w') (w : World) :
    Calls Tryz.prog 7 #[.agg #[.string s1, .int .i32 x1, .int .i32 y1, .int .u8 f1], .agg #[.string s2, .int .i32 x2, .int .i32 y2, .int .u8 f2]] w fun e w' =>
      e = .returned (.tuple #[.agg #[.float .f64 a, .float .f64 b], .float .f64 c]) ∧ Below w.heap.size w w' := by
  have ap := apart_c s1 s2 x1 y1 x2 y2 f1 f2
  have X0 := Lib.hid hx0
  generalize apX x1 y1 x2 y2 = dx at *
  generalize apY x1 y1 x2 y2 = dy at *
  generalize apI x1 y1 x2 y2 = n at *
  have hx1 := X0.out
  clear hx0
  go_enter Tryz.func7, Tryz.ntmps7
  go_wp2_with (first
    | (go_at_call 5; refine (ap _).mono ?_; rintro e w1 ⟨rfl, hb1⟩; have PR := Lib.hid (show w1.heap[w.heap.size + 1 + 1]? = some (.cells #[.float .f64 0, .float .f64 0] 28) by simpa using kb_new hb1); have BB := Lib.hid (bl_then (bl_alloc (bl_alloc (bl_alloc (Below.refl _ _) _) _) _) hb1); clear hb1)
    | (go_at_call 15; (first | (with_reducible refine (q1 _).mono ?_) | (with_reducible refine (q2 _).mono ?_) | (with_reducible refine (q3 _).mono ?_)); rintro e w2 ⟨rfl, hb2⟩; replace PR := Lib.hid (kb_keep hb2 PR.out); replace BB := Lib.hid (bl_then BB.out hb2); clear hb2; (try clear c0 c1 z0 z1); have c0 := kb_cell (i := 0) PR.out rfl; have c1 := kb_cell (i := 1) PR.out rfl; have z0 := kb_frozen PR.out 0; have z1 := kb_frozen PR.out 1))
  refine bodyPost_ret (v := .tuple #[.agg #[.float .f64 a, .float .f64 b], .float .f64 c]) (by simp [results, Tryz.results7, go_sem, c0, c1]) rfl ⟨rfl, ?_⟩
  exact bl_set (bl_set BB.out _ (by simp; omega)) _ (by simp; omega)
theorem g_length_g (s1 s2 : ByteArray) (x1 y1 x2 y2 f1 f2 : Int) {x : Nat} (a b c : Nat) (hx0 : floatOfInt .f64 (apI x1 y1 x2 y2) = x)
    (q1 : ∀ w, Calls Tryz.prog 16 #[.float .f64 x, .int .i8 1] w fun e w' => e = .returned (.float .f64 a) ∧ w = w')
    (q2 : ∀ w, Calls Tryz.prog 16 #[.float .f64 x, .int .i8 2] w fun e w' => e = .returned (.float .f64 b) ∧ w = w')
    (q3 : ∀ w, Calls Tryz.prog 16 #[.float .f64 x, .int .i8 0] w fun e w' => e = .returned (.float .f64 c) ∧ w = w') (w : World) :
    Calls Tryz.prog 8 #[.agg #[.string s1, .int .i32 x1, .int .i32 y1, .int .u8 f1], .agg #[.string s2, .int .i32 x2, .int .i32 y2, .int .u8 f2]] w fun e w' =>
      e = .returned (.tuple #[.agg #[.float .f64 a, .float .f64 b], .float .f64 c]) ∧ Below w.heap.size w w' := by
  have ap := g_apart_c s1 s2 x1 y1 x2 y2 f1 f2
  have X0 := Lib.hid hx0
  generalize apX x1 y1 x2 y2 = dx at *
  generalize apY x1 y1 x2 y2 = dy at *
  generalize apI x1 y1 x2 y2 = n at *
  have hx1 := X0.out
  clear hx0
  go_enter Tryz.func8, Tryz.ntmps8
  go_wp2_with (first
    | (go_at_call 6; refine (ap _).mono ?_; rintro e w1 ⟨rfl, hb1⟩; have PR := Lib.hid (show w1.heap[w.heap.size + 1 + 1]? = some (.cells #[.float .f64 0, .float .f64 0] 28) by simpa using kb_new hb1); have BB := Lib.hid (bl_then (bl_alloc (bl_alloc (bl_alloc (Below.refl _ _) _) _) _) hb1); clear hb1; have c0 := kb_cell (i := 0) PR.out rfl; have c1 := kb_cell (i := 1) PR.out rfl; have z0 := kb_frozen PR.out 0; have z1 := kb_frozen PR.out 1)
    | (go_at_call 16; (first | (with_reducible refine (q1 _).mono ?_) | (with_reducible refine (q2 _).mono ?_) | (with_reducible refine (q3 _).mono ?_)); rintro e w2 ⟨rfl, rfl⟩))
  refine bodyPost_ret (v := .tuple #[.agg #[.float .f64 a, .float .f64 b], .float .f64 c]) (by simp [results, Tryz.results8, go_sem, c0, c1]) rfl ⟨rfl, ?_⟩
  exact bl_set (bl_set BB.out _ (by simp; omega)) _ (by simp; omega)
theorem same_float_c (x : Nat) (w : World) : Calls Tryz.prog 10 #[.float .f64 x, .float .f64 x] w fun e w' => e = .returned (.bool true) ∧ w = w' := by
  go_enter Tryz.func10, Tryz.ntmps10
  go_wp2
  go_ret
  exact ⟨rfl, rfl⟩
theorem same_span_c (x y : Nat) (w : World) : Calls Tryz.prog 9 #[.agg #[.float .f64 x, .float .f64 y], .agg #[.float .f64 x, .float .f64 y]] w fun e w' => e = .returned (.bool true) ∧ Below w.heap.size w w' := by
  go_enter Tryz.func9, Tryz.ntmps9
  go_wp2_with (first | (go_at_call 10; refine (same_float_c _ _).mono ?_; rintro e w' ⟨rfl, rfl⟩))
  go_ret
  exact ⟨rfl, by repeat' (first | (with_reducible exact Below.refl _ _) | (with_reducible refine bl_alloc ?_ _) | (with_reducible refine bl_drewN ?_ _) | (with_reducible refine bl_drew ?_) | (with_reducible refine bl_set ?_ _ (by simp)))⟩
end Go.Proofs.YtgljhgjjenengaaGreatDoor
