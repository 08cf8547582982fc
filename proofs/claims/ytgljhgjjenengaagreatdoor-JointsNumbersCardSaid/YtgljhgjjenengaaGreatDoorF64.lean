/- Plain laws of float64's words, with their numerals. No program. -/
import Derived.Test.YtgljhgjjenengaaGreatDoorFops
namespace GFl
open Ieee

theorem d_sw : double.signWeight = 9223372036854775808 := by decide
theorem d_inf : double.infRung = 9218868437227405312 := by decide
theorem d_b : double.binade = 4503599627370496 := by decide
theorem d_l : double.leastPlace = -1074 := by decide
theorem d_w : 2 ^ double.width = 18446744073709551616 := by decide
theorem s_sw : single.signWeight = 2147483648 := by decide
theorem s_inf : single.infRung = 2139095040 := by decide
theorem s_b : single.binade = 8388608 := by decide
theorem s_l : single.leastPlace = -149 := by decide
theorem s_w : 2 ^ single.width = 4294967296 := by decide

/-- Is it a float64's word? -/
def W64 (x : Nat) : Prop := x < 2 ^ double.width
theorem W64.lt {x : Nat} (h : W64 x) : x < 18446744073709551616 := by unfold W64 at h; rwa [d_w] at h
theorem W64.mk {x : Nat} (h : x < 18446744073709551616) : W64 x := by unfold W64; rwa [d_w]

/-- The rung: the word without its sign. -/
def rg (x : Nat) : Nat := rung double x
/-- The sign. -/
def neg (x : Nat) : Bool := sgn double x
/-- The place. -/
def plc (x : Nat) : Int := pl double x
/-- No number. -/
def isn (x : Nat) : Bool := nan double x
/-- The magnitude, in units of 2^-1074, with its sign. -/
def val (x : Nat) : Int := sv double x

theorem rg_eq (x : Nat) : rg x = x % 9223372036854775808 := by unfold rg rung; rw [d_sw]
theorem neg_eq (x : Nat) : neg x = decide (9223372036854775808 ≤ x) := by unfold neg sgn; rw [d_sw]
theorem isn_eq (x : Nat) : isn x = decide (9218868437227405312 < rg x) := by unfold isn nan rg; rw [d_inf]
theorem plc_eq (x : Nat) : plc x = if neg x then -(rg x : Int) else (rg x : Int) := rfl
theorem val_eq (x : Nat) : val x = if neg x then -(mg double.binade (rg x) : Int) else (mg double.binade (rg x) : Int) := rfl

theorem o_lt {x y : Nat} (hx : W64 x) (hy : W64 y) : (double.order x y == some .lt) = (!isn x && !isn y && decide (plc x < plc y)) := order_lt good_double hx hy
theorem o_gt {x y : Nat} (hx : W64 x) (hy : W64 y) : (double.order x y == some .gt) = (!isn x && !isn y && decide (plc y < plc x)) := order_gt good_double hx hy
theorem o_eq {x y : Nat} (hx : W64 x) (hy : W64 y) : (double.order x y == some .eq) = (!isn x && !isn y && decide (plc x = plc y)) := order_eqv good_double hx hy
theorem o_le {x y : Nat} (hx : W64 x) (hy : W64 y) : (double.order x y == some .lt || double.order x y == some .eq) = (!isn x && !isn y && decide (plc x ≤ plc y)) := order_le good_double hx hy
theorem o_ge {x y : Nat} (hx : W64 x) (hy : W64 y) : (double.order x y == some .gt || double.order x y == some .eq) = (!isn x && !isn y && decide (plc y ≤ plc x)) := order_ge good_double hx hy
theorem o_ne {x y : Nat} (hx : W64 x) (hy : W64 y) : (double.order x y != some .eq) = (isn x || isn y || decide (plc x ≠ plc y)) := order_ne good_double hx hy

theorem o_ne_self {x : Nat} (hx : W64 x) : (double.order x x != some .eq) = isn x := by rw [o_ne hx hx]; simp
theorem o_eq_self {x : Nat} (hx : W64 x) : (double.order x x == some .eq) = !isn x := by rw [o_eq hx hx]; simp

theorem xor_top {n y : Nat} (h : y < 2 ^ n) : y ^^^ 2 ^ n = y + 2 ^ n := by
  apply Nat.eq_of_testBit_eq
  intro i
  rw [Nat.testBit_xor, Nat.testBit_two_pow, Nat.add_comm]
  rcases Nat.lt_trichotomy i n with hi | hi | hi
  · rw [Nat.testBit_two_pow_add_gt hi]
    have : ¬ n = i := by omega
    simp [this]
  · subst hi
    rw [Nat.testBit_two_pow_add_eq, Nat.testBit_lt_two_pow h]; simp
  · have h1 : 2 ^ (n + 1) ≤ 2 ^ i := Nat.pow_le_pow_right (by omega) (by omega)
    have h2 : 2 ^ (n + 1) = 2 ^ n * 2 := Nat.pow_succ ..
    have : ¬ n = i := by omega
    rw [Nat.testBit_lt_two_pow (x := y) (by omega), Nat.testBit_lt_two_pow (x := 2 ^ n + y) (by omega)]
    simp [this]

/-- The word with its sign turned. -/
def fneg (x : Nat) : Nat := x ^^^ 2 ^ 63
theorem fneg_eq {x : Nat} (h : W64 x) : fneg x = if neg x then x - 9223372036854775808 else x + 9223372036854775808 := by
  have h := h.lt
  rw [neg_eq]
  unfold fneg
  by_cases h1 : 9223372036854775808 ≤ x
  · simp only [h1, decide_true, if_true]
    have h3 : x - 9223372036854775808 < 2 ^ 63 := by omega
    have h2 : x = (x - 9223372036854775808) ^^^ 2 ^ 63 := by rw [xor_top h3]; omega
    have h4 : x ^^^ 2 ^ 63 = ((x - 9223372036854775808) ^^^ 2 ^ 63) ^^^ 2 ^ 63 := by rw [← h2]
    rw [h4, Nat.xor_assoc, Nat.xor_self, Nat.xor_zero]
  · simp only [h1, decide_false, Bool.false_eq_true, if_false]
    exact xor_top (by omega)
theorem fneg_w {x : Nat} (h : W64 x) : W64 (fneg x) := by
  rw [fneg_eq h, neg_eq]
  have := h.lt
  refine W64.mk ?_
  by_cases h1 : 9223372036854775808 ≤ x <;> simp [h1] <;> omega
theorem fneg_rg {x : Nat} (h : W64 x) : rg (fneg x) = rg x := by
  have hl := h.lt
  rw [fneg_eq h, neg_eq, rg_eq, rg_eq]
  by_cases h1 : 9223372036854775808 ≤ x <;> simp only [h1, decide_true, decide_false, if_true, Bool.false_eq_true, if_false] <;> omega
theorem fneg_neg {x : Nat} (h : W64 x) : neg (fneg x) = !neg x := by
  have hl := h.lt
  rw [fneg_eq h, neg_eq, neg_eq]
  by_cases h1 : 9223372036854775808 ≤ x
  · simp only [h1, decide_true, if_true, Bool.not_true, decide_eq_false_iff_not]; omega
  · simp only [h1, decide_false, Bool.false_eq_true, if_false, Bool.not_false, decide_eq_true_eq]; omega
theorem fneg_isn {x : Nat} (h : W64 x) : isn (fneg x) = isn x := by rw [isn_eq, isn_eq, fneg_rg h]
theorem fneg_plc {x : Nat} (h : W64 x) : plc (fneg x) = -plc x := by
  rw [plc_eq, plc_eq, fneg_rg h, fneg_neg h]; cases neg x <;> simp
theorem fneg_val {x : Nat} (h : W64 x) : val (fneg x) = -val x := by
  rw [val_eq, val_eq, fneg_rg h, fneg_neg h]; cases neg x <;> simp

/-- Two words of one sign and rung are one. -/
theorem w64_ext {x y : Nat} (hx : W64 x) (hy : W64 y) (h1 : neg x = neg y) (h2 : rg x = rg y) : x = y := by
  have := hx.lt; have := hy.lt
  rw [neg_eq, neg_eq, decide_eq_decide] at h1
  rw [rg_eq, rg_eq] at h2
  omega
/-- The word of a sign and a rung. -/
def wd (s : Bool) (r : Nat) : Nat := double.word s r
theorem wd_eq (s : Bool) (r : Nat) : wd s r = if s then 9223372036854775808 + r else r := by unfold wd Format.word; rw [d_sw]
theorem wd_rg {s : Bool} {r : Nat} (h : r < 9223372036854775808) : rg (wd s r) = r := rung_word (by rw [d_sw]; exact h)
theorem wd_neg {s : Bool} {r : Nat} (h : r < 9223372036854775808) : neg (wd s r) = s := sgn_word (by rw [d_sw]; exact h)
theorem wd_w {s : Bool} {r : Nat} (h : r < 9223372036854775808) : W64 (wd s r) := W64.mk (by rw [wd_eq]; cases s <;> simp <;> omega)
theorem w64_wd {x : Nat} (h : W64 x) : x = wd (neg x) (rg x) := word_split h
theorem w_const {x : Nat} (h : decide (x < 18446744073709551616) = true) : W64 x := W64.mk (of_decide_eq_true h)
theorem plc_lt_zero {x : Nat} : plc x < 0 ↔ neg x = true ∧ 0 < rg x := by rw [plc_eq]; cases neg x <;> simp <;> omega
theorem plc_zero {x : Nat} : plc x = 0 ↔ rg x = 0 := by rw [plc_eq]; cases neg x <;> simp
theorem plc_natAbs (x : Nat) : (plc x).natAbs = rg x := by rw [plc_eq]; cases neg x <;> simp
theorem isn0 : isn 0 = false := by decide
theorem plc0 : plc 0 = 0 := by decide
theorem rg_lt (x : Nat) : rg x < 9223372036854775808 := by rw [rg_eq]; omega
end GFl
