/- girderlaw01.BitsNeighbours answers true for any two floats. -/
import Derived.Test.YtddleibffkaenaaDoorLNpinf0
import Derived.Test.YtddleibffkaenaaDoorLNminf0
import Derived.Test.YtddleibffkaenaaDoorLNmxp0
import Derived.Test.YtddleibffkaenaaDoorLNmxmA0
import Derived.Test.YtddleibffkaenaaDoorLNbigA0
import Derived.Test.YtddleibffkaenaaDoorLNmxmB0
import Derived.Test.YtddleibffkaenaaDoorLNbigB0
import Derived.Test.YtddleibffkaenaaDoorLNsml0
import Derived.Test.YtddleibffkaenaaDoorLNpinf1
import Derived.Test.YtddleibffkaenaaDoorLNminf1
import Derived.Test.YtddleibffkaenaaDoorLNmxp1
import Derived.Test.YtddleibffkaenaaDoorLNmxmA1
import Derived.Test.YtddleibffkaenaaDoorLNbigA1
import Derived.Test.YtddleibffkaenaaDoorLNmxmB1
import Derived.Test.YtddleibffkaenaaDoorLNbigB1
import Derived.Test.YtddleibffkaenaaDoorLNsml1
namespace Go.Proofs.YtddleibffkaenaaDoor
open Go Go.RowKit GFl
set_option maxRecDepth 100000
attribute [local go_sem] run_f64bits run_f64frombits run_neg_f64
theorem neigh_nan (x y : Nat) (hx : W64 x) (w : World) (hT : Tab w) (hn : isn x = true) : Calls Tryd.prog 4 #[.float .f64 x, .float .f64 y] w fun e w' => e = .returned (.bool true) ∧ Below w.heap.size w w' := by
  have k0 : (FloatKind.f64.format.order x x != some .eq) = true := by rw [t_ne_self hx]; exact hn
  have n1 : nextF x true = x := nextF_nan hn
  have n2 : nextF x false = x := nextF_nan hn
  go_enter Tryd.func4, Tryd.ntmps4
  go_wp2_with (go_at_call 19; refine (next_c _ _ hx _).mono ?_; rintro e w' ⟨rfl, hw⟩; obtain rfl := hw.symm)
  refine (awake_c _ hT).mono ?_
  rintro e wz ⟨rfl, hbz⟩
  go_wp2
  go_ret
  exact ⟨rfl, hbz⟩
theorem neigh_all0 (x y : Nat) (hx : W64 x) (hy : W64 y) (w : World) (hT : Tab w) (hn : isn x = false) (hm : isn y = false) : Calls Tryd.prog 4 #[.float .f64 x, .float .f64 y] w fun e w' => e = .returned (.bool true) ∧ Below w.heap.size w w' := by
  have hb := plc_bd hn
  by_cases h1 : plc x = 9218868437227405312
  · exact neigh_pinf0 x y hx hy w hT hn hm h1
  by_cases h2 : plc x = -9218868437227405312
  · exact neigh_minf0 x y hx hy w hT hn hm h2
  by_cases h3 : plc x = 9218868437227405311
  · exact neigh_mxp0 x y hx hy w hT hn hm h3
  have hr : rg x = (plc x).natAbs := (plc_natAbs x).symm
  have f2 : finF (nextF x true) = true := by rw [fin_plc, nextF_plc true hn]; simp [nextP, PI]; omega
  by_cases h4 : plc x = -9218868437227405311
  · obtain ⟨a, b, m, da, db, dm, rfl | rfl⟩ := gMid hx (by omega) (by omega) f2
    · exact neigh_mxmA0 m y hx hy w hT hn hm h4 a b da db dm
    · exact neigh_mxmB0 x y hx hy w hT hn hm h4 a b da db dm
  by_cases h5 : 103582791429521408 ≤ plc x ∨ plc x ≤ -103582791429521408
  · obtain ⟨a, b, m, da, db, dm, rfl | rfl⟩ := gMid hx (by omega) (by omega) f2
    · exact neigh_bigA0 m y hx hy w hT hn hm ⟨by omega, h5⟩ a b da db dm
    · exact neigh_bigB0 x y hx hy w hT hn hm ⟨by omega, h5⟩ a b da db dm
  · exact neigh_sml0 x y hx hy w hT hn hm (by omega)
theorem neigh_all1 (x y : Nat) (hx : W64 x) (hy : W64 y) (w : World) (hT : Tab w) (hn : isn x = false) (hm : isn y = true) : Calls Tryd.prog 4 #[.float .f64 x, .float .f64 y] w fun e w' => e = .returned (.bool true) ∧ Below w.heap.size w w' := by
  have hb := plc_bd hn
  by_cases h1 : plc x = 9218868437227405312
  · exact neigh_pinf1 x y hx hy w hT hn hm h1
  by_cases h2 : plc x = -9218868437227405312
  · exact neigh_minf1 x y hx hy w hT hn hm h2
  by_cases h3 : plc x = 9218868437227405311
  · exact neigh_mxp1 x y hx hy w hT hn hm h3
  have hr : rg x = (plc x).natAbs := (plc_natAbs x).symm
  have f2 : finF (nextF x true) = true := by rw [fin_plc, nextF_plc true hn]; simp [nextP, PI]; omega
  by_cases h4 : plc x = -9218868437227405311
  · obtain ⟨a, b, m, da, db, dm, rfl | rfl⟩ := gMid hx (by omega) (by omega) f2
    · exact neigh_mxmA1 m y hx hy w hT hn hm h4 a b da db dm
    · exact neigh_mxmB1 x y hx hy w hT hn hm h4 a b da db dm
  by_cases h5 : 103582791429521408 ≤ plc x ∨ plc x ≤ -103582791429521408
  · obtain ⟨a, b, m, da, db, dm, rfl | rfl⟩ := gMid hx (by omega) (by omega) f2
    · exact neigh_bigA1 m y hx hy w hT hn hm ⟨by omega, h5⟩ a b da db dm
    · exact neigh_bigB1 x y hx hy w hT hn hm ⟨by omega, h5⟩ a b da db dm
  · exact neigh_sml1 x y hx hy w hT hn hm (by omega)
theorem bitsNeighbours_c (x y : Nat) (hx : W64 x) (hy : W64 y) (w : World) (hT : Tab w) : Calls Tryd.prog 4 #[.float .f64 x, .float .f64 y] w fun e w' => e = .returned (.bool true) ∧ Below w.heap.size w w' := by
  cases hn : isn x
  · cases hm : isn y
    · exact neigh_all0 x y hx hy w hT hn hm
    · exact neigh_all1 x y hx hy w hT hn hm
  · exact neigh_nan x y hx w hT hn
end Go.Proofs.YtddleibffkaenaaDoor
