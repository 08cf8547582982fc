/- girderlaw01.BitsNeighbours: one case. -/
import Derived.Test.YtddleibffkaenaaDoorLNf
namespace Go.Proofs.YtddleibffkaenaaDoor
open Go Go.RowKit GFl
set_option maxRecDepth 100000
attribute [local go_sem] run_f64bits run_f64frombits run_neg_f64
set_option maxHeartbeats 8000000 in
theorem neigh_minf1 (x y : Nat) (hx : W64 x) (hy : W64 y) (w : World) (hT : Tab w) (hn : isn x = false) (hm : isn y = true) (hp : plc x = -9218868437227405312) : Calls Tryd.prog 4 #[.float .f64 x, .float .f64 y] w fun e w' => e = .returned (.bool true) ∧ Below w.heap.size w w' := by
  have hU : W64 (nextF x true) := nextF_w x true hx
  have hV : W64 (nextF x false) := nextF_w x false hx
  have hA : W64 (fabs x) := fabs_w x
  have k0 : (FloatKind.f64.format.order x x != some .eq) = false := by rw [t_ne_self hx]; exact hn
  have hb := plc_bd hn
  have i1 : infS x 1 = false := inf_m hp
  have i2 : infS x (-1) = true := inf_m' hp
  have i3 : (FloatKind.f64.format.order (nextF x false) x != some .eq) = false := gE hx hV hn (nextF_isn false hn) (by rw [nextF_plc false hn]; simp [nextP, PI]; omega)
  have i4 := gU hx hn (by omega)
  have f1 : finF x = false := by rw [fin_plc]; simp; omega
  have z : ulpW x = 0 := ulpW_no (rg_of_not f1)
  have zz : (FloatKind.f64.format.order 0 0 != some .eq) = false := by decide +kernel
  clear hb hp
  go_enter Tryd.func4, Tryd.ntmps4
  go_wp2_with (first | (go_at_call 19; refine (next_c _ _ (by first | exact hx | exact hy | exact hU | exact hV | exact hA) _).mono ?_; rintro e w' ⟨rfl, hw⟩; obtain rfl := hw.symm) | (go_at_call 12; refine (place_c _ (by first | exact hx | exact hy | exact hU | exact hV | exact hA) _).mono ?_; rintro e w' ⟨rfl, hw⟩; obtain rfl := hw.symm) | (go_at_call 22; refine (isInf_c _ _ hx _).mono ?_; rintro e w' ⟨rfl, hw⟩; obtain rfl := hw.symm) | (go_at_call 24; refine (abs_c _ hx _).mono ?_; rintro e w' ⟨rfl, hw⟩; obtain rfl := hw.symm) | (go_at_call 23; refine (finite_c _ (by first | exact hx | exact hU | exact nextF_w _ _ hA) _).mono ?_; rintro e w' ⟨rfl, ⟨⟨nq, rfl⟩⟩⟩))
  all_goals (
    refine (ulp_any x hx _).mono ?_
    rintro e w1 ⟨rfl, _, _, hb1⟩
    have hbb : Below w.heap.size w w1 := by
      refine bl_then ?_ hb1
      repeat' (first | (with_reducible exact Below.refl _ _) | (with_reducible refine bl_alloc ?_ _) | (with_reducible refine bl_drewN ?_ _) | (with_reducible refine bl_drew ?_) | (with_reducible refine bl_set ?_ _ (by simp)))
    have hT1 := hT.below hbb
    have BB := Lib.hid hbb
    clear hbb hb1
    go_wp2_with (first | (go_at_call 19; refine (next_c _ _ (by first | exact hx | exact hy | exact hU | exact hV | exact hA) _).mono ?_; rintro e w' ⟨rfl, hw⟩; obtain rfl := hw.symm) | (go_at_call 12; refine (place_c _ (by first | exact hx | exact hy | exact hU | exact hV | exact hA) _).mono ?_; rintro e w' ⟨rfl, hw⟩; obtain rfl := hw.symm) | (go_at_call 22; refine (isInf_c _ _ hx _).mono ?_; rintro e w' ⟨rfl, hw⟩; obtain rfl := hw.symm) | (go_at_call 24; refine (abs_c _ hx _).mono ?_; rintro e w' ⟨rfl, hw⟩; obtain rfl := hw.symm) | (go_at_call 23; refine (finite_c _ (by first | exact hx | exact hU | exact nextF_w _ _ hA) _).mono ?_; rintro e w' ⟨rfl, ⟨⟨nq, rfl⟩⟩⟩))
    refine (awake_c _ (by first | exact hT1 | exact hT1.below (by repeat' (first | (with_reducible exact Below.refl _ _) | (with_reducible refine bl_alloc ?_ _) | (with_reducible refine bl_drewN ?_ _) | (with_reducible refine bl_drew ?_) | (with_reducible refine bl_set ?_ _ (by simp)))))).mono ?_
    rintro e wz ⟨rfl, hbz⟩
    go_wp2
    go_ret
    refine ⟨rfl, bl_then ?_ hbz⟩
    repeat' (first | exact BB.out | refine bl_drewN ?_ _))

end Go.Proofs.YtddleibffkaenaaDoor
