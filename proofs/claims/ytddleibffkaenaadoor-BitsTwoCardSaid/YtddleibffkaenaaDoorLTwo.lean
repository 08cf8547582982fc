/- girderlaw01.BitsTwo answers true for any two floats: no condition, but that math/bits' table lies as its text has it (tied). -/
import Derived.Test.YtddleibffkaenaaDoorL01
namespace Go.Proofs.YtddleibffkaenaaDoor
open Go Go.RowKit GFl
set_option maxRecDepth 100000
attribute [local go_sem] run_f64bits run_f64frombits run_neg_f64

theorem bitsTwo_c (x y : Nat) (hx : W64 x) (hy : W64 y) (w : World) (hT : Tab w) : Calls Tryd.prog 7 #[.float .f64 x, .float .f64 y] w fun e w' => e = .returned (.bool true) ∧ Below w.heap.size w w' := by
  go_enter Tryd.func7, Tryd.ntmps7
  go_wp2_with (first | (go_at_call 30; refine (between_c _ _ hx hy _).mono ?_; rintro e w' ⟨rfl, rfl⟩) | (go_at_call 31; refine (betweenR_c _ _ hx hy _).mono ?_; rintro e w' ⟨rfl, rfl⟩) | (go_at_call 32; refine (same_c _ _ hx hy _).mono ?_; rintro e w' ⟨rfl, rfl⟩) | (go_at_call 33; refine (sameR_c _ _ hx hy _).mono ?_; rintro e w' ⟨rfl, rfl⟩))
  refine (order_c _ _ hx hy _).mono ?_
  rintro e w1 ⟨rfl, hb1⟩
  have hT1 := hT.below hb1
  go_wp2_with (first | (go_at_call 35; refine (orderR_c _ _ hx hy _).mono ?_; rintro e w' ⟨rfl, rfl⟩))
  refine (awake_c _ hT1).mono ?_
  rintro e w2 ⟨rfl, hb2⟩
  go_wp2
  go_ret
  exact ⟨rfl, bl_then hb1 hb2⟩
end Go.Proofs.YtddleibffkaenaaDoor
