/- girderlaw01.BitsNeighbours: one case. -/
import Derived.Test.YtddleibffkaenaaDoorLNf
namespace Go.Proofs.YtddleibffkaenaaDoor
open Go Go.RowKit GFl
set_option maxRecDepth 100000
attribute [local go_sem] run_f64bits run_f64frombits run_neg_f64
set_option maxHeartbeats 8000000 in
theorem neigh_mxmB1 (x y : Nat) (hx : W64 x) (hy : W64 y) (w : World) (hT : Tab w) (hn : isn x = false) (hm : isn y = true) (hp : plc x = -9218868437227405311) (a b : Nat) (da : FloatKind.f64.format.div x 4611686018427387904 = some a) (db : FloatKind.f64.format.div (nextF x true) 4611686018427387904 = some b) (dm : FloatKind.f64.format.add a b = some (nextF x true)) : Calls Tryd.prog 4 #[.float .f64 x, .float .f64 y] w fun e w' => e = .returned (.bool true) ∧ Below w.heap.size w w' := by
  have hU : W64 (nextF x true) := nextF_w x true hx
  have hV : W64 (nextF x false) := nextF_w x false hx
  have hA : W64 (fabs x) := fabs_w x
  have k0 : (FloatKind.f64.format.order x x != some .eq) = false := by rw [t_ne_self hx]; exact hn
  have hb := plc_bd hn
  have hr : rg x = (plc x).natAbs := (plc_natAbs x).symm
  have hf : rg x < 9218868437227405312 := by omega
  have i1 : infS x 1 = false := inf_f 1 hf
  have i2 : infS x (-1) = false := inf_f (-1) hf
  have i3 := gU hx hn (by omega)
  have i4 := gV hx hn (by omega)
  have f1 : finF x = true := finF_t hf
  have n1 := gUV hx hn (by omega)
  have n2 := gVU hx hn (by omega)
  have f2 : finF (nextF x true) = true := by rw [fin_plc, nextF_plc true hn]; simp [nextP, PI]; omega
  have f3 : finF (nextF (fabs x) true) = false := by rw [farFin hf]; simp; omega
  have z : ulpW x = 8980177656976769024 := farBig (by omega)
  have zz : (FloatKind.f64.format.order 8980177656976769024 8980177656976769024 == some .eq) = true := by decide +kernel
  have DA : ∀ w, (Go.binOp .quo 22 (.float .f64 x) (.float .f64 4611686018427387904)).run Tryd.prog w = .ok (.float .f64 a) w := fun w => run_float_arith w .quo 22 .f64 _ _ _ da
  have DB : ∀ w, (Go.binOp .quo 22 (.float .f64 (nextF x true)) (.float .f64 4611686018427387904)).run Tryd.prog w = .ok (.float .f64 b) w := fun w => run_float_arith w .quo 22 .f64 _ _ _ db
  have DM : ∀ w, (Go.binOp .add 22 (.float .f64 a) (.float .f64 b)).run Tryd.prog w = .ok (.float .f64 (nextF x true)) w := fun w => run_float_arith w .add 22 .f64 _ _ _ dm
  have m1 : (FloatKind.f64.format.order (nextF x true) x != some .eq) = true := by rw [t_ne hU hx, hn, nextF_isn true hn, nextF_plc true hn, nextP_up (by omega)]; simp; omega
  have m2 : (FloatKind.f64.format.order (nextF x true) (nextF x true) != some .eq) = false := by rw [t_ne_self hU]; exact nextF_isn true hn
  clear da db dm
  clear hb hp
  go_enter Tryd.func4, Tryd.ntmps4
  go_wp2_with (first | (go_at_call 19; refine (next_c _ _ (by first | exact hx | exact hy | exact hU | exact hV | exact hA) _).mono ?_; rintro e w' ⟨rfl, hw⟩; obtain rfl := hw.symm) | (go_at_call 12; refine (place_c _ (by first | exact hx | exact hy | exact hU | exact hV | exact hA) _).mono ?_; rintro e w' ⟨rfl, hw⟩; obtain rfl := hw.symm) | (go_at_call 22; refine (isInf_c _ _ hx _).mono ?_; rintro e w' ⟨rfl, hw⟩; obtain rfl := hw.symm) | (go_at_call 24; refine (abs_c _ hx _).mono ?_; rintro e w' ⟨rfl, hw⟩; obtain rfl := hw.symm) | (go_at_call 23; refine (finite_c _ (by first | exact hx | exact hU | exact nextF_w _ _ hA) _).mono ?_; rintro e w' ⟨rfl, ⟨⟨nq, rfl⟩⟩⟩))
  all_goals (
    refine (ulp_any x hx _).mono ?_
    rintro e w1 ⟨rfl, _, _, hb1⟩
    have hbb : Below w.heap.size w w1 := by
      refine bl_then ?_ hb1
      repeat' (first | (with_reducible exact Below.refl _ _) | (with_reducible refine bl_alloc ?_ _) | (with_reducible refine bl_drewN ?_ _) | (with_reducible refine bl_drew ?_) | (with_reducible refine bl_set ?_ _ (by simp)))
    have hT1 := hT.below hbb
    have BB := Lib.hid hbb
    clear hbb hb1
    go_wp2_with (first | (go_at_call 19; refine (next_c _ _ (by first | exact hx | exact hy | exact hU | exact hV | exact hA) _).mono ?_; rintro e w' ⟨rfl, hw⟩; obtain rfl := hw.symm) | (go_at_call 12; refine (place_c _ (by first | exact hx | exact hy | exact hU | exact hV | exact hA) _).mono ?_; rintro e w' ⟨rfl, hw⟩; obtain rfl := hw.symm) | (go_at_call 22; refine (isInf_c _ _ hx _).mono ?_; rintro e w' ⟨rfl, hw⟩; obtain rfl := hw.symm) | (go_at_call 24; refine (abs_c _ hx _).mono ?_; rintro e w' ⟨rfl, hw⟩; obtain rfl := hw.symm) | (go_at_call 23; refine (finite_c _ (by first | exact hx | exact hU | exact nextF_w _ _ hA) _).mono ?_; rintro e w' ⟨rfl, ⟨⟨nq, rfl⟩⟩⟩))
    refine (awake_c _ (by first | exact hT1 | exact hT1.below (by repeat' (first | (with_reducible exact Below.refl _ _) | (with_reducible refine bl_alloc ?_ _) | (with_reducible refine bl_drewN ?_ _) | (with_reducible refine bl_drew ?_) | (with_reducible refine bl_set ?_ _ (by simp)))))).mono ?_
    rintro e wz ⟨rfl, hbz⟩
    go_wp2
    go_ret
    refine ⟨rfl, bl_then ?_ hbz⟩
    repeat' (first | exact BB.out | refine bl_drewN ?_ _))

end Go.Proofs.YtddleibffkaenaaDoor
