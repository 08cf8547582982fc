/- girderlaw01.BitsNeighbours answers true for any two floats. -/
import Derived.Test.YtddleibffkaenaaDoorLFin
namespace Go.Proofs.YtddleibffkaenaaDoor
open Go Go.RowKit GFl
set_option maxRecDepth 100000
attribute [local go_sem] run_f64bits run_f64frombits run_neg_f64

theorem gU {x : Nat} (hx : W64 x) (hn : isn x = false) (h : plc x < 9218868437227405312) : (FloatKind.f64.format.order (nextF x true) x == some .gt) = true := by
  rw [t_gt (nextF_w x true hx) hx, hn, nextF_isn true hn, nextF_plc true hn]; simp [nextP, PI]; omega
theorem gV {x : Nat} (hx : W64 x) (hn : isn x = false) (h : -9218868437227405312 < plc x) : (FloatKind.f64.format.order (nextF x false) x == some .lt) = true := by
  rw [t_lt (nextF_w x false hx) hx, hn, nextF_isn false hn, nextF_plc false hn]; simp [nextP, PI]; omega
theorem gE {x y : Nat} (hx : W64 x) (hy : W64 y) (hn : isn x = false) (hm : isn y = false) (h : plc y = plc x) : (FloatKind.f64.format.order y x != some .eq) = false := by
  rw [t_ne hy hx, hn, hm]; simp [h]
theorem gUV {x : Nat} (hx : W64 x) (hn : isn x = false) (h : plc x < 9218868437227405312) : (FloatKind.f64.format.order (nextF (nextF x true) false) x != some .eq) = false := by
  have hb := plc_bd hn
  refine gE hx (nextF_w _ _ (nextF_w x true hx)) hn (nextF_isn false (nextF_isn true hn)) ?_
  rw [nextF_plc false (nextF_isn true hn), nextF_plc true hn]; simp [nextP, PI]; omega
theorem gVU {x : Nat} (hx : W64 x) (hn : isn x = false) (h : -9218868437227405312 < plc x) : (FloatKind.f64.format.order (nextF (nextF x false) true) x != some .eq) = false := by
  have hb := plc_bd hn
  refine gE hx (nextF_w _ _ (nextF_w x false hx)) hn (nextF_isn true (nextF_isn false hn)) ?_
  rw [nextF_plc true (nextF_isn false hn), nextF_plc false hn]; simp [nextP, PI]; omega
theorem gLt {x y : Nat} (hx : W64 x) (hy : W64 y) (hn : isn x = false) (hm : isn y = false) : (FloatKind.f64.format.order x y == some .lt) = decide (placeF x < placeF y) := by
  rw [t_lt hx hy, hn, hm]; unfold placeF; rw [hn, hm]; rfl
theorem gEq {x y : Nat} (hx : W64 x) (hy : W64 y) (hn : isn x = false) (hm : isn y = false) : (FloatKind.f64.format.order x y == some .eq) = (placeF x == placeF y) := by
  rw [t_eq hx hy, hn, hm]; unfold placeF; rw [hn, hm]; rfl
theorem isn_of {x : Nat} (h : rg x ≤ 9218868437227405312) : isn x = false := by rw [isn_eq]; simp; omega
theorem nextP_up {p : Int} (h : p < 9218868437227405312) : nextP p true = p + 1 := by unfold nextP PI; rw [if_pos rfl]; omega
theorem atW_up (n : Nat) : atW ((n : Int) + 1) = wd false (n + 1) := by
  unfold atW
  rw [decide_eq_false (by omega), show ((n : Int) + 1).natAbs = n + 1 by omega]
theorem atW_dn {n : Nat} (h : 2 ≤ n) : atW (-(n : Int) + 1) = wd true (n - 1) := by
  unfold atW
  rw [decide_eq_true (by omega), show (-(n : Int) + 1).natAbs = n - 1 by omega]
theorem far_eq {x : Nat} (h : rg x < 9218868437227405312) : nextF (fabs x) true = wd false (rg x + 1) := by
  have hn : isn (fabs x) = false := by rw [fabs_isn]; exact isn_of (by omega)
  unfold nextF
  rw [hn, fabs_plc, nextP_up (by omega)]
  exact atW_up _
theorem fabs_wd (x : Nat) : fabs x = wd false (rg x) := by unfold fabs; rw [wd_eq]; rfl
theorem farSub {x : Nat} (h : rg x + 1 < 9218868437227405312) : FloatKind.f64.format.sub (nextF (fabs x) true) (fabs x) = some (ulpW x) := by
  obtain ⟨q, e, hq, hm⟩ := far64 h
  rw [far_eq (by omega), fabs_wd]
  have hu : IsUlp x (wd false q) := ⟨wd_w (by omega), wd_neg (by omega), by rw [wd_rg (by omega)]; exact hq, by rw [wd_rg (by omega)]; exact hm⟩
  rw [ulpW_of (by omega) hu]
  exact e
theorem farBig {x : Nat} (h : rg x = 9218868437227405311) : ulpW x = 8980177656976769024 := by
  refine ulpW_of (by omega) ⟨w_const (by decide), by decide, by decide, ?_⟩
  rw [h, show rg 8980177656976769024 = 8980177656976769024 from by decide, mg_norm (by decide)]
  decide +kernel
theorem farFin {x : Nat} (h : rg x < 9218868437227405312) : finF (nextF (fabs x) true) = decide (rg x + 1 < 9218868437227405312) := by
  rw [far_eq h]; unfold finF; rw [wd_rg (by omega)]
/-- The middle. -/
theorem gMid {x : Nat} (hx : W64 x) (h1 : 103582791429521408 ≤ rg x) (h2 : rg x < 9218868437227405312) (hU : finF (nextF x true) = true) :
    ∃ a b m, FloatKind.f64.format.div x 4611686018427387904 = some a ∧ FloatKind.f64.format.div (nextF x true) 4611686018427387904 = some b ∧ FloatKind.f64.format.add a b = some m ∧ (m = x ∨ m = nextF x true) := by
  have hn := isn_of (x := x) (by omega)
  have hb := plc_bd hn
  rw [fin_plc, nextF_plc true hn] at hU
  have hU := of_decide_eq_true hU
  have hxw := w64_wd hx
  have hp := plc_eq x
  cases hs : neg x with
  | false =>
    rw [hs] at hp hxw
    simp only [Bool.false_eq_true, if_false] at hp
    have e : nextF x true = wd false (rg x + 1) := by
      unfold nextF; rw [hn, hp, nextP_up (by omega)]
      exact atW_up _
    have := mid64 (s := false) (i := rg x) (j := rg x + 1) (by unfold B52; omega) (by unfold B52; omega) h2 (by rw [hp] at hU; simp [nextP, PI] at hU; omega) (.inl rfl)
    rw [← hxw, ← e] at this
    exact this
  | true =>
    rw [hs] at hp hxw
    simp only [if_true] at hp
    have e : nextF x true = wd true (rg x - 1) := by
      unfold nextF; rw [hn, hp, nextP_up (by omega)]
      exact atW_dn (by omega)
    have := mid64 (s := true) (i := rg x) (j := rg x - 1) (by unfold B52; omega) (by unfold B52; omega) h2 (by omega) (.inr (by omega))
    rw [← hxw, ← e] at this
    exact this

theorem inf_p {x : Nat} (hp : plc x = 9218868437227405312) : infS x 1 = true := by
  have h := plc_natAbs x
  unfold infS; rw [plc_eq] at hp
  cases hs : neg x <;> rw [hs] at hp <;> simp at hp ⊢ <;> omega
theorem inf_p' {x : Nat} (hp : plc x = 9218868437227405312) : infS x (-1) = false := by
  unfold infS; rw [plc_eq] at hp
  cases hs : neg x <;> rw [hs] at hp <;> simp at hp ⊢; omega
theorem inf_m {x : Nat} (hp : plc x = -9218868437227405312) : infS x 1 = false := by
  unfold infS; rw [plc_eq] at hp
  cases hs : neg x <;> rw [hs] at hp <;> simp at hp ⊢ <;> omega
theorem inf_m' {x : Nat} (hp : plc x = -9218868437227405312) : infS x (-1) = true := by
  unfold infS; rw [plc_eq] at hp
  cases hs : neg x <;> rw [hs] at hp <;> simp at hp ⊢ <;> omega
theorem inf_f {x : Nat} (s : Int) (h : rg x < 9218868437227405312) : infS x s = false := by
  unfold infS; rw [show decide (rg x = 9218868437227405312) = false by simp; omega]; rfl
theorem rg_of_not {x : Nat} (h : finF x = false) : 9218868437227405312 ≤ rg x := by
  unfold finF at h; simpa using h
theorem ulp_isW (x : Nat) (h : rg x < 9218868437227405312) : IsUlp x (ulpW x) := by
  obtain ⟨q, hq⟩ := rep (B := B52) 1 (max (rg x / B52) 1 - 1) (by decide)
  rw [Nat.one_mul] at hq
  have hu : mg B52 (rg x + 1) = mg B52 (rg x) + p2 (max (rg x / B52) 1 - 1) := by
    rw [mg_succ _ _ B52_pos, p2_def, show max (rg x / B52) 1 - 1 = rg x / B52 - 1 by omega]; rfl
  have hq1 : q ≤ rg x + 1 := (mg_le_iff B52_pos).1 (by omega)
  have hq2 : q < 9218868437227405312 := by
    rcases Nat.lt_or_ge q 9218868437227405312 with h1 | h1
    · exact h1
    · exfalso
      have e : q = rg x + 1 := by omega
      have e2 : rg x = 9218868437227405311 := by omega
      rw [e, hu, e2] at hq
      have : mg B52 9218868437227405311 = 0 := by omega
      exact absurd this (by decide +kernel)
  have hz : IsUlp x (wd false q) := ⟨wd_w (by omega), wd_neg (by omega), by rw [wd_rg (by omega)]; exact hq2, by rw [wd_rg (by omega)]; exact hq⟩
  rw [ulpW_of h hz]; exact hz
theorem ulpW_w (x : Nat) (_ : W64 x) (h : rg x < 9218868437227405312) : W64 (ulpW x) := (ulp_isW x h).w
theorem ulpW_f (x : Nat) (_ : W64 x) (h : rg x < 9218868437227405312) : rg (ulpW x) < 9218868437227405312 := (ulp_isW x h).f
end Go.Proofs.YtddleibffkaenaaDoor
