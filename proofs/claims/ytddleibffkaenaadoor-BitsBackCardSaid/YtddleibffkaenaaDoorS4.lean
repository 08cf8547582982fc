/- Differences, halves and doubles of float64s; the middle of two neighbours; what lies between them. Plain. -/
import Derived.Test.YtddleibffkaenaaDoorS3
import Derived.Test.YtddleibffkaenaaDoorFdiv
namespace GFl
open Ieee

theorem read_fneg {y : Nat} (hy : W64 y) : double.read (fneg y) = (double.read y).opposite := by
  have h1 : W64 (fneg y) := fneg_w hy
  have r : fneg y % double.signWeight = y % double.signWeight := fneg_rg hy
  have s : (fneg y / double.signWeight % 2 == 1) = !(y / double.signWeight % 2 == 1) := by rw [sgn_eq h1, sgn_eq hy]; exact fneg_neg hy
  unfold Format.read
  simp only [r, s]
  (repeat' split) <;> rfl
theorem sub_add {x y : Nat} (hy : W64 y) : double.sub x y = double.add x (fneg y) := by unfold Format.sub Format.add; rw [read_fneg hy]
/-- The difference of two finite float64s. -/
theorem sub64 {x y : Nat} (hx : W64 x) (hy : W64 y) (hx1 : rg x < 9218868437227405312) (hy1 : rg y < 9218868437227405312) :
    ∃ r, IsRn 4503599627370496 (val x - val y).natAbs 1 r ∧
      double.sub x y = some (wd (if val x - val y = 0 then neg x && !neg y else decide (val x - val y < 0)) (min r 9218868437227405312)) := by
  have h := add64 hx (fneg_w hy) hx1 (by rw [fneg_rg hy]; exact hy1)
  rw [fneg_val hy, fneg_neg hy, ← Int.sub_eq_add_neg] at h
  rw [sub_add hy]
  exact h
theorem sub_self_fin {x : Nat} (hx : W64 x) (h : rg x < 9218868437227405312) : double.sub x x = some 0 := by
  obtain ⟨r, hr, e⟩ := sub64 hx hx h h
  rw [Int.sub_self, Int.natAbs_zero] at hr
  rw [e, hr.unique B52_pos (by decide) (IsRn.zero B52_pos (by decide)), Int.sub_self, if_pos rfl]
  cases neg x <;> decide
theorem sub_self_no {x : Nat} (hx : W64 x) (h : 9218868437227405312 ≤ rg x) : double.sub x x = none := by
  unfold Format.sub
  rcases Nat.lt_or_eq_of_le h with h1 | h1
  · rw [read_nan hx (by rw [d_inf]; exact h1) good_double]; rfl
  · rw [read_inf hx (by rw [d_inf]; exact h1.symm) good_double]
    cases sgn double x <;> rfl

/-- The quotient of two finite float64s. -/
theorem div64 {x y : Nat} (hx : W64 x) (hy : W64 y) (hx1 : rg x < 9218868437227405312) (hy1 : rg y < 9218868437227405312) (hy0 : rg y ≠ 0) :
    ∃ r, IsRn 4503599627370496 (mg 4503599627370496 (rg x) * p2 1074) (mg 4503599627370496 (rg y)) r ∧ double.div x y = some (wd (neg x ^^ neg y) (min r 9218868437227405312)) := by
  have h := div_fin good_double hx hy (by rw [d_inf]; exact hx1) (by rw [d_inf]; exact hy1) hy0 (by decide)
  have e : (-double.leastPlace).toNat = 1074 := by decide
  rw [d_b, ← p2_def, e, d_inf] at h
  exact h
theorem two_rg : rg 4611686018427387904 = 4611686018427387904 := by decide
theorem two_mg : mg B52 (rg 4611686018427387904) = p2 1074 * 2 := by rw [two_rg]; decide +kernel
theorem two_neg : neg 4611686018427387904 = false := by decide
theorem two_w : W64 4611686018427387904 := w_const (by decide)
theorem half64 {x q : Nat} (hx : W64 x) (hx1 : rg x < 9218868437227405312) (hq : q ≤ 9218868437227405312) (h : mg B52 (rg x) = 2 * mg B52 q) : double.div x 4611686018427387904 = some (wd (neg x) q) := by
  obtain ⟨r, hr, e⟩ := div64 hx two_w hx1 (by rw [two_rg]; decide) (by rw [two_rg]; decide)
  rw [two_mg, h] at hr
  have := p2_pos 1074
  rw [e, rn_exact B52_pos (by omega) hr (q := q) (by rw [Nat.mul_comm 2, Nat.mul_assoc, Nat.mul_comm 2]), two_neg, Bool.xor_false, Nat.min_eq_left hq]
theorem dbl64 {x q : Nat} (hx : W64 x) (hx1 : rg x < 9218868437227405312) (hq : q ≤ 9218868437227405312) (h : 2 * mg B52 (rg x) = mg B52 q) : double.mul x 4611686018427387904 = some (wd (neg x) q) := by
  obtain ⟨r, hr, e⟩ := mul64 hx two_w hx1 (by rw [two_rg]; decide)
  rw [two_mg] at hr
  rw [e, rn_exact B52_pos (p2_pos 1074) hr (q := q) (by rw [← h, Nat.mul_comm (p2 1074), ← Nat.mul_assoc, Nat.mul_comm 2]), two_neg, Bool.xor_false, Nat.min_eq_left hq]

theorem has_half {r : Nat} (h : 2 * B52 ≤ r) : ∃ q, mg B52 r = 2 * mg B52 q ∧ q ≤ r := by
  have h2 : 2 ≤ r / B52 := (Nat.le_div_iff_mul_le B52_pos).2 h
  obtain ⟨q, hq⟩ := rep (B := B52) (B52 + r % B52) (r / B52 - 2) (by have := Nat.mod_lt r B52_pos; omega)
  have e : mg B52 r = 2 * mg B52 q := by
    rw [mg_norm (by omega), hq, show r / B52 - 1 = r / B52 - 2 + 1 by omega, p2_add, show p2 1 = 2 by decide +kernel, ← Nat.mul_assoc, Nat.mul_comm]
  exact ⟨q, e, (mg_le_iff B52_pos).1 (by omega)⟩

theorem val_wd {s : Bool} {r : Nat} (h : r < 9223372036854775808) : val (wd s r) = if s then -(mg B52 r : Int) else (mg B52 r : Int) := by rw [val_eq', wd_rg h, wd_neg h]

/-- The middle of two neighbours, by halves: it is one of them. -/
theorem mid64 {s : Bool} {i j : Nat} (hi : 2 * B52 ≤ i) (hj : 2 * B52 ≤ j) (hi1 : i < 9218868437227405312) (hj1 : j < 9218868437227405312) (hn : j = i + 1 ∨ i = j + 1) :
    ∃ a b m, double.div (wd s i) 4611686018427387904 = some a ∧ double.div (wd s j) 4611686018427387904 = some b ∧ double.add a b = some m ∧ (m = wd s i ∨ m = wd s j) := by
  obtain ⟨p, hp, hp1⟩ := has_half hi
  obtain ⟨q, hq, hq1⟩ := has_half hj
  have d1 := half64 (x := wd s i) (q := p) (wd_w (by omega)) (by rw [wd_rg (by omega)]; omega) (by omega) (by rw [wd_rg (by omega)]; exact hp)
  have d2 := half64 (x := wd s j) (q := q) (wd_w (by omega)) (by rw [wd_rg (by omega)]; omega) (by omega) (by rw [wd_rg (by omega)]; exact hq)
  rw [wd_neg (by omega)] at d1 d2
  obtain ⟨r, hr, e⟩ := add64 (x := wd s p) (y := wd s q) (wd_w (by omega)) (wd_w (by omega)) (by rw [wd_rg (by omega)]; omega) (by rw [wd_rg (by omega)]; omega)
  refine ⟨_, _, _, d1, d2, e, ?_⟩
  have hm : 0 < mg B52 i := Nat.lt_of_lt_of_le (by decide) (Nat.le_trans hi (le_mg B52 i B52_pos))
  have hv : (val (wd s p) + val (wd s q)).natAbs = mg B52 p + mg B52 q := by
    rw [val_wd (by omega), val_wd (by omega)]; cases s <;> simp <;> omega
  have hs : (if val (wd s p) + val (wd s q) = 0 then neg (wd s p) && neg (wd s q) else decide (val (wd s p) + val (wd s q) < 0)) = s := by
    rw [if_neg (by omega), val_wd (by omega), val_wd (by omega)]
    cases s <;> simp <;> omega
  rw [hv] at hr
  rw [hs]
  rcases hn with rfl | rfl
  · have l := mg_lt_succ B52 i B52_pos
    have h1 := rn_ge (q := i) B52_pos (by decide) hr (by omega)
    have h2 := rn_le (q := i + 1) B52_pos (by decide) hr (by omega)
    rcases Nat.lt_or_ge i r with h | h
    · right; rw [show r = i + 1 by omega, Nat.min_eq_left (by omega)]
    · left; rw [show r = i by omega, Nat.min_eq_left (by omega)]
  · have l := mg_lt_succ B52 j B52_pos
    have h1 := rn_ge (q := j) B52_pos (by decide) hr (by omega)
    have h2 := rn_le (q := j + 1) B52_pos (by decide) hr (by omega)
    rcases Nat.lt_or_ge j r with h | h
    · left; rw [show r = j + 1 by omega, Nat.min_eq_left (by omega)]
    · right; rw [show r = j by omega, Nat.min_eq_left (by omega)]

/-- How far the next of greater size lies. -/
theorem far64 {k : Nat} (hk : k + 1 < 9218868437227405312) : ∃ q, double.sub (wd false (k + 1)) (wd false k) = some (wd false q) ∧ q < 9218868437227405312 ∧ mg B52 q = p2 (max (k / B52) 1 - 1) := by
  obtain ⟨r, hr, e⟩ := sub64 (x := wd false (k + 1)) (y := wd false k) (wd_w (by omega)) (wd_w (by omega)) (by rw [wd_rg (by omega)]; omega) (by rw [wd_rg (by omega)]; omega)
  have hu : mg B52 (k + 1) = mg B52 k + p2 (max (k / B52) 1 - 1) := by
    rw [mg_succ _ _ B52_pos, p2_def, show max (k / B52) 1 - 1 = k / B52 - 1 by omega]; rfl
  have hv : val (wd false (k + 1)) - val (wd false k) = (p2 (max (k / B52) 1 - 1) : Nat) := by
    rw [val_wd (by omega), val_wd (by omega), hu]; simp; omega
  have hp := p2_pos (max (k / B52) 1 - 1)
  obtain ⟨q, hq⟩ := rep (B := B52) 1 (max (k / B52) 1 - 1) (by decide)
  rw [Nat.one_mul] at hq
  have hq1 : q ≤ k + 1 := (mg_le_iff B52_pos).1 (by omega)
  rw [hv] at hr e
  refine ⟨q, ?_, by omega, hq⟩
  rw [e, rn_exact (q := q) B52_pos (by decide) hr (by rw [hq]; omega), if_neg (by omega), Nat.min_eq_left (by omega)]
  congr 2
end GFl
