/- girderlaw01's awake, and the laws of two and three floats. -/
import Derived.Test.YtddleibffkaenaaDoorB5
namespace Go.Proofs.YtddleibffkaenaaDoor
open Go Go.RowKit GFl
set_option maxRecDepth 100000
attribute [local go_sem] run_f64bits run_f64frombits run_neg_f64

theorem bw_refl (w : World) : Below w.heap.size w w := Below.refl _ _
theorem awake_c (w : World) (hT : Tab w) : Calls Tryd.prog 21 #[] w fun e w' => e = .returned (.bool true) ∧ Below w.heap.size w w' := by
  have hx : W64 13832806255468478464 := w_const (by decide)
  have hs : IsSplit 13832806255468478464 3 (-1) := ⟨by decide, by decide, by
    rw [show rg 13832806255468478464 = 4609434218613702656 from by decide, mg_norm (by decide)]
    decide +kernel⟩
  have hn : neg 13832806255468478464 = true := by decide
  have hp : placeF (wd false 9218868437227405312) = 9218868437227405312 := by decide
  have hpn : isn (wd false 9218868437227405312) = false := by decide
  have hnx : nextF 4607182418800017408 false = 4607182418800017407 := by decide
  have ho : (FloatKind.f64.format.order 4607182418800017407 4607182418800017407 == some .eq) = true := by rw [t_eq_self (w_const (by decide))]; decide
  go_enter Tryd.func21, Tryd.ntmps21
  go_wp2_with fail
  refine (split_yes _ hx (by decide) (by decide) _ hT).mono ?_
  rintro e w1 ⟨fr, ex, rfl, hs', _, _, hb⟩
  obtain ⟨rfl, rfl⟩ := hs.unique hs'
  rw [hn]
  clear hs hs' hn hx
  go_wp2_with (first | (go_at_call 38; refine (inf_c _ _).mono ?_; rintro e w' ⟨rfl, rfl⟩) | (go_at_call 12; refine (place_c _ (wd_w (by decide)) _).mono ?_; rw [hp, hpn]; rintro e w' ⟨rfl, rfl⟩) | (go_at_call 19; refine (next_c _ _ (w_const (by decide)) _).mono ?_; rw [hnx]; rintro e w' ⟨rfl, rfl⟩))
  go_ret
  exact ⟨rfl, bl_alloc hb _⟩
end Go.Proofs.YtddleibffkaenaaDoor
