/- girderlaw01.finite; plain facts of neighbours. -/
import Derived.Test.YtddleibffkaenaaDoorLTells
import Derived.Test.YtddleibffkaenaaDoorS4
namespace Go.Proofs.YtddleibffkaenaaDoor
open Go Go.RowKit GFl
set_option maxRecDepth 100000
attribute [local go_sem] run_f64bits run_f64frombits run_neg_f64

theorem ord_eq_no {x : Nat} (h : 9218868437227405312 < x % 9223372036854775808) (hw : x < 18446744073709551616) : (FloatKind.f64.format.order x 0 == some .eq) = false := by
  rw [t_eq (W64.mk hw) (w_const (by decide)), isn_eq, rg_eq]; simp [h]
theorem finite_c (x : Nat) (hx : W64 x) (w : World) : Calls Tryd.prog 23 #[.float .f64 x] w fun e w' => e = .returned (.bool (finF x)) ∧ Dr w w' := by
  rcases Nat.lt_or_ge (rg x) 9218868437227405312 with h | h
  · have E := Lib.hid (sub_self_fin hx h)
    have k : (FloatKind.f64.format.order 0 0 == some .eq) = true := by decide +kernel
    rw [finF_t h]
    go_enter Tryd.func23, Tryd.ntmps23
    go_wp2_with (refine wp_arith .f64 x x rfl rfl rfl ?_; intro r n hr; obtain rfl := fr_some hr E.out; clear hr)
    go_ret
    exact ⟨rfl, Dr.n _ _⟩
  · have E := Lib.hid (sub_self_no hx h)
    rw [finF_f h]
    go_enter Tryd.func23, Tryd.ntmps23
    go_wp2_with (refine wp_arith .f64 x x rfl rfl rfl ?_; intro r n hr; have hr2 := (show floatBits .sub .f64 x x = none from E.out) ▸ hr; have k := ord_eq_no (x := r) hr2.1 hr2.2; clear hr hr2)
    go_ret
    exact ⟨rfl, Dr.n _ _⟩
theorem atW_plc {p : Int} (h1 : -9218868437227405312 ≤ p) (h2 : p ≤ 9218868437227405312) : plc (atW p) = p := by
  unfold atW
  rw [plc_eq, wd_rg (by omega), wd_neg (by omega)]
  by_cases h : p < 0 <;> simp [h] <;> omega
theorem atW_rg {p : Int} (h1 : -9218868437227405312 ≤ p) (h2 : p ≤ 9218868437227405312) : rg (atW p) = p.natAbs := by unfold atW; rw [wd_rg (by omega)]
theorem atW_isn {p : Int} (h1 : -9218868437227405312 ≤ p) (h2 : p ≤ 9218868437227405312) : isn (atW p) = false := by rw [isn_eq, atW_rg h1 h2]; simp; omega
theorem nextF_plc {x : Nat} (up : Bool) (h : isn x = false) : plc (nextF x up) = nextP (plc x) up := by
  have hb := plc_bd h
  have hn := nextP_bd (plc x) up hb.1 hb.2
  unfold nextF; rw [h]; exact atW_plc hn.1 hn.2
theorem nextF_isn {x : Nat} (up : Bool) (h : isn x = false) : isn (nextF x up) = false := by
  have hb := plc_bd h
  have hn := nextP_bd (plc x) up hb.1 hb.2
  unfold nextF; rw [h]; exact atW_isn hn.1 hn.2
theorem fin_plc {x : Nat} : finF x = decide (-9218868437227405312 < plc x ∧ plc x < 9218868437227405312) := by
  unfold finF; rw [plc_eq, decide_eq_decide]
  cases neg x
  · rw [if_neg (by decide)]; omega
  · rw [if_pos rfl]; omega
end Go.Proofs.YtddleibffkaenaaDoor
