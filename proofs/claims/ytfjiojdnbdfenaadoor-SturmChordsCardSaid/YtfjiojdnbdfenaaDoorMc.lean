import Derived.Test.YtfjiojdnbdfenaaDoorMb
import Derived.Shelf.Strconv.Itoa0
import Derived.Test.YtfjiojdnbdfenaaDoorProg
import Derived.Shelf.Spec.TrailingZeros
/- Plain laws: numbers of few digits are words; products by powers of two; a word's digits replaced. No program. -/
namespace GFl
open Ieee

/-- 2 to the power n, not to be worked out. -/
def p2 (n : Nat) : Nat := 2 ^ n
theorem p2_def (n : Nat) : p2 n = 2 ^ n := rfl
theorem p2_pos (n : Nat) : 0 < p2 n := Nat.two_pow_pos n
theorem p2_add (a b : Nat) : p2 (a + b) = p2 a * p2 b := Nat.pow_add ..
theorem p2_le {a b : Nat} (h : a ≤ b) : p2 a ≤ p2 b := Nat.pow_le_pow_right (by decide) h
theorem p2_zero : p2 0 = 1 := rfl
attribute [irreducible] p2
theorem p2_split {a b : Nat} (h : b ≤ a) : p2 a = p2 (a - b) * p2 b := by rw [← p2_add]; congr 1; omega

/-- A number of at most as many digits as a word bears has a rung. -/
theorem rep {B : Nat} (q k : Nat) (hq : q < 2 * B) : ∃ r, mg B r = q * p2 k := by
  simp only [p2_def]
  induction k generalizing q with
  | zero =>
    refine ⟨q, ?_⟩
    by_cases h : q < B
    · rw [mg_small h]; simp
    · have e : q = (0 + 1) * B + (q - B) := by omega
      have := mg_eq B 0 (q - B) (by omega)
      rw [← e] at this
      rw [this]; simp; omega
  | succ k ih =>
    by_cases h : q < B
    · obtain ⟨r, hr⟩ := ih (q * 2) (by omega)
      exact ⟨r, by rw [hr, Nat.pow_succ, Nat.mul_assoc, Nat.mul_comm 2]⟩
    · refine ⟨(k + 1 + 1) * B + (q - B), ?_⟩
      rw [mg_eq B (k + 1) (q - B) (by omega)]
      congr 1; omega

theorem rn_exact {B N D r q : Nat} (hB : 0 < B) (hD : 0 < D) (h : IsRn B N D r) (e : N = mg B q * D) : r = q := by
  subst e
  exact h.unique hB hD (IsRn.exact hB hD)

theorem rn_le {B N D r q : Nat} (hB : 0 < B) (hD : 0 < D) (h : IsRn B N D r) (e : N ≤ mg B q * D) : r ≤ q :=
  h.mono hB hD hD (IsRn.exact hB hD) (Nat.mul_le_mul_right _ e)
theorem rn_ge {B N D r q : Nat} (hB : 0 < B) (hD : 0 < D) (h : IsRn B N D r) (e : mg B q * D ≤ N) : q ≤ r :=
  (IsRn.exact hB hD).mono hB hD hD h (Nat.mul_le_mul_right _ e)

/-- The product of two finite float64s. -/
theorem mul64 {x y : Nat} (hx : W64 x) (hy : W64 y) (hx1 : rg x < 9218868437227405312) (hy1 : rg y < 9218868437227405312) :
    ∃ r, IsRn 4503599627370496 (mg 4503599627370496 (rg x) * mg 4503599627370496 (rg y)) (p2 1074) r ∧ double.mul x y = some (wd (neg x ^^ neg y) (min r 9218868437227405312)) := by
  have h := mul_fin good_double hx hy (by rw [d_inf]; exact hx1) (by rw [d_inf]; exact hy1) (by decide)
  have e : (-double.leastPlace).toNat = 1074 := by decide
  rw [d_b, ← p2_def, e, d_inf] at h
  exact h
/-- The sum of two finite float64s. -/
theorem add64 {x y : Nat} (hx : W64 x) (hy : W64 y) (hx1 : rg x < 9218868437227405312) (hy1 : rg y < 9218868437227405312) :
    ∃ r, IsRn 4503599627370496 (val x + val y).natAbs 1 r ∧
      double.add x y = some (wd (if val x + val y = 0 then neg x && neg y else decide (val x + val y < 0)) (min r 9218868437227405312)) := by
  have h := add_fin good_double hx hy (by rw [d_inf]; exact hx1) (by rw [d_inf]; exact hy1)
  rw [d_b, d_inf] at h
  exact h
theorem val_eq' (x : Nat) : val x = if neg x then -(mg 4503599627370496 (rg x) : Int) else (mg 4503599627370496 (rg x) : Int) := by rw [val_eq, d_b]

abbrev B52 : Nat := 4503599627370496
theorem B52_pos : 0 < B52 := by decide
theorem mg_B (E t : Nat) (hE : 1 ≤ E) (ht : t < B52) : mg B52 (E * B52 + t) = (B52 + t) * p2 (E - 1) := by
  obtain ⟨s, rfl⟩ : ∃ s, E = s + 1 := ⟨E - 1, by omega⟩
  rw [p2_def]
  exact mg_eq B52 s t ht
theorem mg_norm {r : Nat} (h : B52 ≤ r) : mg B52 r = (B52 + r % B52) * p2 (r / B52 - 1) := by
  have := mg_B (r / B52) (r % B52) ((Nat.one_le_div_iff B52_pos).2 h) (Nat.mod_lt _ B52_pos)
  rwa [Nat.mul_comm (r / B52), Nat.div_add_mod] at this

/-- What normalizing comes to: y is x times 2^-e. -/
structure Normd (x y : Nat) (e : Int) : Prop where
  w : W64 y
  s : neg y = neg x
  lo : B52 ≤ rg y
  hi : rg y < 9218868437227405312
  e : (e = 0 ∧ y = x) ∨ (e = -52 ∧ mg B52 (rg y) = mg B52 (rg x) * p2 52)

theorem Normd.k1 {x y : Nat} {e : Int} (h : Normd x y e) : -52 ≤ e := by rcases h.e with ⟨rfl, _⟩ | ⟨rfl, _⟩ <;> omega
theorem Normd.k2 {x y : Nat} {e : Int} (h : Normd x y e) : e ≤ 0 := by rcases h.e with ⟨rfl, _⟩ | ⟨rfl, _⟩ <;> omega
theorem Normd.E {x y : Nat} {e : Int} (h : Normd x y e) : rg y / B52 < 2047 := Nat.div_lt_of_lt_mul (by have := h.hi; unfold B52; omega)
theorem c52_rg : rg 4841369599423283200 = 4841369599423283200 := by decide
theorem c52_mg : mg B52 (rg 4841369599423283200) = p2 52 * p2 1074 := by
  rw [c52_rg, mg_norm (by decide), ← p2_add]
  decide +kernel
theorem c52_neg : neg 4841369599423283200 = false := by decide
theorem mg52 : mg B52 B52 = B52 := by decide
theorem mgINF : mg B52 9218868437227405312 = B52 * p2 2046 := by
  rw [mg_norm (by decide)]; congr 1
theorem normd_mul {x : Nat} (hx : W64 x) (h0 : 0 < rg x) (h1 : rg x < B52) : ∃ y, double.mul x 4841369599423283200 = some y ∧ Normd x y (-52) := by
  obtain ⟨r, hr, e⟩ := mul64 hx (w_const (by decide : decide (4841369599423283200 < 18446744073709551616) = true)) (by unfold B52 at h1; omega) (by decide)
  obtain ⟨q, hq⟩ := rep (B := B52) (rg x) 52 (by unfold B52 at *; omega)
  have hrq : r = q := rn_exact B52_pos (p2_pos 1074) hr (by rw [c52_mg, ← Nat.mul_assoc, mg_small h1, ← hq])
  subst hrq
  have h52 : p2 52 = B52 := by decide +kernel
  have hlo : B52 ≤ r := by
    rw [← mg_le_iff (B := B52) B52_pos, hq, mg52, h52]
    exact Nat.le_mul_of_pos_left _ h0
  have hhi : r < 9218868437227405312 := by
    rw [← mg_lt_iff (B := B52) B52_pos, hq, mgINF, h52, Nat.mul_comm B52]
    refine Nat.mul_lt_mul_of_pos_right ?_ B52_pos
    exact Nat.lt_of_lt_of_le h1 (Nat.le_trans (Nat.le_of_eq h52.symm) (p2_le (by decide)))
  rw [c52_neg, Bool.xor_false, Nat.min_eq_left (Nat.le_of_lt hhi)] at e
  have hr63 : r < 9223372036854775808 := by omega
  refine ⟨_, e, wd_w hr63, wd_neg hr63, by rw [wd_rg hr63]; exact hlo, by rw [wd_rg hr63]; exact hhi, .inr ⟨rfl, ?_⟩⟩
  rw [wd_rg hr63, hq, mg_small h1]
theorem normd_id {x : Nat} (hx : W64 x) (h0 : B52 ≤ rg x) (h1 : rg x < 9218868437227405312) : Normd x x 0 := ⟨hx, rfl, h0, h1, .inl ⟨rfl, rfl⟩⟩

/-- What ldexp comes to: the nearest of x times 2^e. -/
theorem ldexp_val {x y : Nat} {e1 e : Int} (h : Normd x y e1) (X : Int) (hX : X = e + e1 + (rg y / B52 : Nat) - 1023) :
    ∃ c d, 0 < c ∧ 0 < d ∧ mg B52 (rg x) * p2 e.toNat * c = (B52 + rg y % B52) * p2 (X + 1022).toNat * d ∧ p2 (-e).toNat * c = p2 (-(X + 1022)).toNat * d := by
  have hE : 1 ≤ rg y / B52 := (Nat.one_le_div_iff B52_pos).2 h.lo
  have hm := mg_norm h.lo
  generalize rg y / B52 = E at *
  generalize B52 + rg y % B52 = m at *
  rcases h.e with ⟨rfl, rfl⟩ | ⟨rfl, h2⟩
  · rw [hm]
    refine ⟨p2 (-(X + 1022)).toNat, p2 (-e).toNat, p2_pos _, p2_pos _, ?_, Nat.mul_comm ..⟩
    simp only [Nat.mul_assoc, ← p2_add]
    congr 2; omega
  · rw [hm] at h2
    refine ⟨p2 52 * p2 (-(X + 1022)).toNat, p2 52 * p2 (-e).toNat, Nat.mul_pos (p2_pos _) (p2_pos _), Nat.mul_pos (p2_pos _) (p2_pos _), ?_, by ac_rfl⟩
    have e3 : mg B52 (rg x) * p2 e.toNat * (p2 52 * p2 (-(X + 1022)).toNat) = mg B52 (rg x) * p2 52 * p2 (e.toNat + (-(X + 1022)).toNat) := by
      rw [p2_add, Nat.mul_assoc, Nat.mul_assoc, Nat.mul_left_comm (p2 e.toNat)]
    rw [e3, ← h2]
    simp only [Nat.mul_assoc, ← p2_add]
    congr 2; omega

/-- The nearest word of x times 2^e, by its rung. -/
def IsLd (x : Nat) (e : Int) (z : Nat) : Prop := ∃ r, IsRn B52 (mg B52 (rg x) * p2 e.toNat) (p2 (-e).toNat) r ∧ z = wd (neg x) (min r 9218868437227405312)

theorem isLd_of {x y : Nat} {e1 e : Int} (h : Normd x y e1) (X : Int) (hX : X = e + e1 + (rg y / B52 : Nat) - 1023) {r z : Nat}
    (hr : IsRn B52 ((B52 + rg y % B52) * p2 (X + 1022).toNat) (p2 (-(X + 1022)).toNat) r) (hz : z = wd (neg x) (min r 9218868437227405312)) : IsLd x e z := by
  obtain ⟨c, d, hc, hd, h1, h2⟩ := ldexp_val h X hX
  refine ⟨r, ?_, hz⟩
  have := (IsRn.scale (B := B52) (r := r) hd).2 hr
  rw [← h1, ← h2] at this
  exact (IsRn.scale hc).1 this

theorem isLd_over {x y : Nat} {e1 e : Int} (h : Normd x y e1) (X : Int) (hX : X = e + e1 + (rg y / B52 : Nat) - 1023) (hb : 1023 < X) : IsLd x e (wd (neg x) 9218868437227405312) := by
  obtain ⟨q, hq⟩ := rep (B := B52) (B52 + rg y % B52) (X + 1022).toNat (by have := Nat.mod_lt (rg y) B52_pos; omega)
  refine isLd_of h X hX (r := q) ?_ ?_
  · have e0 : (-(X + 1022)).toNat = 0 := by omega
    rw [e0, p2_zero]
    have := IsRn.exact (B := B52) (r := q) B52_pos Nat.one_pos
    rwa [hq, Nat.mul_one] at this
  · rw [Nat.min_eq_right]
    rw [← mg_le_iff (B := B52) B52_pos, hq, mgINF]
    exact Nat.mul_le_mul (by omega) (p2_le (by omega))

theorem isLd_norm {x y : Nat} {e1 e : Int} (h : Normd x y e1) (X : Int) (hX : X = e + e1 + (rg y / B52 : Nat) - 1023) (ha : -1022 ≤ X) (hb : X ≤ 1023) : IsLd x e (wd (neg x) ((X + 1023).toNat * B52 + rg y % B52)) := by
  have ht := Nat.mod_lt (rg y) B52_pos
  have hm := mg_B (X + 1023).toNat (rg y % B52) (by omega) ht
  refine isLd_of h X hX (r := (X + 1023).toNat * B52 + rg y % B52) ?_ ?_
  · have e0 : (-(X + 1022)).toNat = 0 := by omega
    rw [e0, p2_zero]
    have := IsRn.exact (B := B52) (r := (X + 1023).toNat * B52 + rg y % B52) B52_pos Nat.one_pos
    rw [hm, Nat.mul_one] at this
    have e2 : (X + 1023).toNat - 1 = (X + 1022).toNat := by omega
    rwa [e2] at this
  · congr 1
    rw [Nat.min_eq_left]
    unfold B52 at *
    omega

theorem isLd_under {x y : Nat} {e1 e : Int} (h : Normd x y e1) (X : Int) (hX : X = e + e1 + (rg y / B52 : Nat) - 1023) (ha : X < -1075) : IsLd x e (wd (neg x) 0) := by
  have ht := Nat.mod_lt (rg y) B52_pos
  refine isLd_of h X hX (r := 0) ?_ (by simp)
  have e0 : (X + 1022).toNat = 0 := by omega
  rw [e0, p2_zero, Nat.mul_one]
  have hp : p2 54 ≤ p2 (-(X + 1022)).toNat := p2_le (by omega)
  have h54 : p2 54 = 4 * B52 := by decide +kernel
  have m0 : mg B52 0 = 0 := by decide
  have m1 : mg B52 (0 + 1) = 1 := by decide
  refine ⟨?_, ?_, ?_, ?_⟩
  · rw [m0, m1]; omega
  · rw [m0, m1]; intro _; rfl
  · intro q hq; omega
  · intro q hq; omega

theorem one_rg : rg 4607182418800017408 = 4607182418800017408 := by decide
theorem one_mg : mg B52 (rg 4607182418800017408) = p2 1074 := by rw [one_rg]; decide +kernel
theorem one_neg : neg 4607182418800017408 = false := by decide
theorem m53_rg : rg 4368491638549381120 = 4368491638549381120 := by decide
theorem m53_mg : mg B52 (rg 4368491638549381120) = p2 1021 := by rw [m53_rg]; decide +kernel
theorem m53_neg : neg 4368491638549381120 = false := by decide

theorem mul_one64 {x : Nat} (hx : W64 x) (h : rg x < 9218868437227405312) : double.mul 4607182418800017408 x = some x := by
  obtain ⟨r, hr, e⟩ := mul64 (w_const (by decide : decide (4607182418800017408 < 18446744073709551616) = true)) hx (by decide) h
  rw [one_mg, Nat.mul_comm] at hr
  have hrq := rn_exact B52_pos (p2_pos 1074) hr rfl
  rw [hrq, one_neg, Bool.false_xor, Nat.min_eq_left (Nat.le_of_lt h), ← w64_wd hx] at e
  exact e

theorem isLd_sub {x y : Nat} {e1 e : Int} (h : Normd x y e1) (X : Int) (hX : X = e + e1 + (rg y / B52 : Nat) - 1023) (ha : -1075 ≤ X) (hb : X < -1022) :
    ∃ z, double.mul 4368491638549381120 (wd (neg x) ((X + 53 + 1023).toNat * B52 + rg y % B52)) = some z ∧ IsLd x e z := by
  have ht := Nat.mod_lt (rg y) B52_pos
  have hR : (X + 53 + 1023).toNat * B52 + rg y % B52 < 9218868437227405312 := by unfold B52 at *; omega
  have hR63 : (X + 53 + 1023).toNat * B52 + rg y % B52 < 9223372036854775808 := by omega
  have hm := mg_B (X + 53 + 1023).toNat (rg y % B52) (by omega) ht
  obtain ⟨r, hr, e2⟩ := mul64 (w_const (by decide : decide (4368491638549381120 < 18446744073709551616) = true)) (wd_w (s := neg x) hR63) (by decide) (by rw [wd_rg hR63]; exact hR)
  rw [wd_neg hR63, m53_neg, Bool.false_xor] at e2
  rw [m53_mg, wd_rg hR63, hm] at hr
  refine ⟨_, e2, isLd_of h X hX (r := r) (hr.cross (p2_pos _) (p2_pos _) ?_) rfl⟩
  have e0 : (X + 1022).toNat = 0 := by omega
  rw [e0, p2_zero, Nat.mul_one]
  generalize B52 + rg y % B52 = m
  have e5 : p2 1021 * (m * p2 ((X + 53 + 1023).toNat - 1)) * p2 (-(X + 1022)).toNat = m * (p2 1021 * p2 ((X + 53 + 1023).toNat - 1) * p2 (-(X + 1022)).toNat) := by ac_rfl
  rw [e5, ← p2_add, ← p2_add]
  congr 2; omega

/-- The whole number that a float is. -/
theorem toInt_whole {z m : Nat} (hz : W64 z) (hf : rg z < 9218868437227405312) (hn : neg z = false) (hm : mg B52 (rg z) = m * p2 1074) : (double.read z).toInt .zero = some (m : Int) := by
  obtain ⟨q, e, h1, h2, h3, _, _⟩ := read_num (f := double) hz (by rw [d_inf]; exact hf)
  have hs : sgn double z = false := hn
  rw [h1, hs]
  rw [d_l] at h2 h3
  rw [d_b] at h3
  have h3 : q * p2 (e + 1074).toNat = m * p2 1074 := by
    rw [p2_def]
    have e1 : e + 1074 = e - -1074 := by omega
    rw [e1, h3]
    exact hm
  simp only [Datum.toInt, Datum.integral, signed, Bool.false_eq_true, if_false]
  congr 2
  simp only [Nat.shiftLeft_zero]
  unfold Toward.cut
  simp only [Bool.toNat_false, Nat.add_zero, Nat.shiftLeft_eq, Nat.one_mul]
  by_cases he : 0 ≤ e
  · have e0 : (-e).toNat = 0 := by omega
    rw [e0, Nat.zero_min, Nat.pow_zero, Nat.div_one]
    have e2 : p2 (e + 1074).toNat = p2 e.toNat * p2 1074 := by rw [← p2_add]; congr 1; omega
    rw [e2, ← Nat.mul_assoc] at h3
    rw [← p2_def]
    exact Nat.eq_of_mul_eq_mul_right (p2_pos _) h3
  · have e0 : e.toNat = 0 := by omega
    rw [e0, Nat.pow_zero, Nat.mul_one]
    have e2 : p2 1074 = p2 (-e).toNat * p2 (e + 1074).toNat := by rw [← p2_add]; congr 1; omega
    rw [e2, ← Nat.mul_assoc] at h3
    have h4 := Nat.eq_of_mul_eq_mul_right (p2_pos _) h3
    rw [p2_def] at h4
    by_cases hm0 : m = 0
    · subst hm0; rw [h4]; simp
    · have hle : 2 ^ (-e).toNat ≤ q := by rw [h4]; exact Nat.le_mul_of_pos_left _ (by omega)
      have hq0 : q ≠ 0 := by have := Nat.two_pow_pos (-e).toNat; omega
      have hlog : (-e).toNat ≤ q.log2 := (Nat.le_log2 hq0).2 hle
      rw [Nat.min_eq_left (by omega), h4]
      exact Nat.mul_div_cancel _ (Nat.two_pow_pos _)

/-- The parts of a float that is not nought. -/
structure IsSplit (x fr : Nat) (ex : Int) : Prop where
  odd : fr % 2 = 1
  lo : -1074 ≤ ex
  eq : fr * p2 (ex + 1074).toNat = mg B52 (rg x)

theorem odd_unique {a b i j : Nat} (ha : a % 2 = 1) (hb : b % 2 = 1) (h : a * p2 i = b * p2 j) : a = b ∧ i = j := by
  rcases Nat.lt_trichotomy i j with hij | hij | hij
  · exfalso
    rw [p2_split (Nat.le_of_lt hij), ← Nat.mul_assoc] at h
    have h1 := Nat.eq_of_mul_eq_mul_right (p2_pos i) h
    obtain ⟨k, hk⟩ : ∃ k, j - i = k + 1 := ⟨j - i - 1, by omega⟩
    rw [hk, p2_def, Nat.pow_succ] at h1
    have : (b * (2 ^ k * 2)) % 2 = 0 := by rw [← Nat.mul_assoc]; omega
    omega
  · subst hij
    exact ⟨Nat.eq_of_mul_eq_mul_right (p2_pos _) h, rfl⟩
  · exfalso
    rw [p2_split (Nat.le_of_lt hij), ← Nat.mul_assoc] at h
    have h1 := Nat.eq_of_mul_eq_mul_right (p2_pos j) h
    obtain ⟨k, hk⟩ : ∃ k, i - j = k + 1 := ⟨i - j - 1, by omega⟩
    rw [hk, p2_def, Nat.pow_succ] at h1
    have : (a * (2 ^ k * 2)) % 2 = 0 := by rw [← Nat.mul_assoc]; omega
    omega

theorem IsSplit.unique {x a b : Nat} {i j : Int} (h : IsSplit x a i) (h' : IsSplit x b j) : a = b ∧ i = j := by
  have := odd_unique h.odd h'.odd (h.eq.trans h'.eq.symm)
  have := h.lo
  have := h'.lo
  omega

/-- The fraction of a float, times 2^53. -/
theorem split_m {t z : Nat} (ht : t < B52) (h : IsLd (wd false (1022 * B52 + t)) 53 z) : W64 z ∧ rg z < 9218868437227405312 ∧ neg z = false ∧ mg B52 (rg z) = (B52 + t) * p2 1074 := by
  have hR : 1022 * B52 + t < 9223372036854775808 := by unfold B52 at *; omega
  obtain ⟨r, hr, e⟩ := h
  rw [wd_rg hR, mg_B 1022 t (by decide) ht] at hr
  obtain ⟨q, hq⟩ := rep (B := B52) (B52 + t) 1074 (by omega)
  have e1 : (B52 + t) * p2 (1022 - 1) * p2 (53 : Int).toNat = mg B52 q * p2 (-53 : Int).toNat := by
    rw [hq, Nat.mul_assoc, ← p2_add, show (-53 : Int).toNat = 0 from rfl, p2_zero, Nat.mul_one]
    rfl
  have hrq := rn_exact B52_pos (p2_pos _) hr e1
  have hhi : q < 9218868437227405312 := by
    rw [← mg_lt_iff (B := B52) B52_pos, hq, mgINF]
    have h2 : p2 2046 = p2 972 * p2 1074 := by rw [← p2_add]
    have h3 : p2 1 ≤ p2 972 := p2_le (by decide)
    have h4 : p2 1 = 2 := by decide +kernel
    rw [h2, ← Nat.mul_assoc]
    refine Nat.mul_lt_mul_of_pos_right ?_ (p2_pos _)
    have : B52 * 2 ≤ B52 * p2 972 := Nat.mul_le_mul_left _ (by omega)
    omega
  have hq63 : q < 9223372036854775808 := by omega
  rw [hrq, wd_neg hR, Nat.min_eq_left (Nat.le_of_lt hhi)] at e
  rw [e]
  exact ⟨wd_w hq63, by rw [wd_rg hq63]; exact hhi, wd_neg hq63, by rw [wd_rg hq63]; exact hq⟩

theorem p2_odd_le {a b m M : Nat} (hm : m % 2 = 1) (h : m * p2 a = M * p2 b) : b ≤ a := by
  rcases Nat.lt_or_ge a b with hab | hab
  · exfalso
    rw [p2_split (Nat.le_of_lt hab), ← Nat.mul_assoc] at h
    have h1 := Nat.eq_of_mul_eq_mul_right (p2_pos a) h
    obtain ⟨k, hk⟩ : ∃ k, b - a = k + 1 := ⟨b - a - 1, by omega⟩
    rw [hk, p2_def, Nat.pow_succ] at h1
    have : (M * (2 ^ k * 2)) % 2 = 0 := by rw [← Nat.mul_assoc]; omega
    omega
  · exact hab

theorem split_ok {x y : Nat} {k : Int} {n j : Nat} (h : Normd x y k) (hm : B52 + rg y % B52 = p2 n * (2 * j + 1)) : IsSplit x (2 * j + 1) (k + (rg y / B52 : Nat) - 1022 - 53 + n) := by
  have hE : 1 ≤ rg y / B52 := (Nat.one_le_div_iff B52_pos).2 h.lo
  have hy := mg_norm h.lo
  rw [hm] at hy
  generalize rg y / B52 = E at *
  have key : (2 * j + 1) * p2 (n + (E - 1)) = mg B52 (rg x) * p2 (-k).toNat := by
    rw [p2_add]
    have e1 : (2 * j + 1) * (p2 n * p2 (E - 1)) = p2 n * (2 * j + 1) * p2 (E - 1) := by ac_rfl
    rw [e1, ← hy]
    rcases h.e with ⟨rfl, rfl⟩ | ⟨rfl, h2⟩
    · rw [show (-(0 : Int)).toNat = 0 from rfl, p2_zero, Nat.mul_one]
    · exact h2
  have hge := p2_odd_le (by omega) key
  have hk := h.k1
  have hk2 := h.k2
  refine ⟨by omega, by omega, ?_⟩
  have e3 : n + (E - 1) = (k + E - 1022 - 53 + n + 1074).toNat + (-k).toNat := by omega
  rw [e3, p2_add, ← Nat.mul_assoc] at key
  exact Nat.eq_of_mul_eq_mul_right (p2_pos _) key
end GFl


/- What frexp, ldexp and their callees of package math answer. -/
namespace Go.Proofs.YtfjiojdnbdfenaaDoor
open Go Go.RowKit GFl
set_option maxRecDepth 100000
attribute [local go_sem] run_f64bits run_f64frombits run_neg_f64

theorem fr_some {k : FloatKind} {z r : Nat} {o : Option Nat} (h : FR k o r) (e : o = some z) : r = z := by rw [e] at h; exact h

def NormPost (x : Nat) (w : World) (e : Ending) (w' : World) : Prop := ∃ y k, e = .returned (.tuple #[.float .f64 y, .int .i64 k]) ∧ Normd x y k ∧ Dr w w'
theorem normalize_c (x : Nat) (hx : W64 x) (h0 : 0 < rg x) (h1 : rg x < 9218868437227405312) (w : World) : Calls Tryd.prog 112 #[.float .f64 x] w (NormPost x w) := by
  have k : (FloatKind.f64.format.order (fabs x) 4503599627370496 == some .lt) = decide (rg x < 4503599627370496) := by
    rw [t_lt (fabs_w x) (w_const (by decide)), fabs_isn, fabs_plc, isn_eq, isn_eq, plc_eq, neg_eq, rg_eq 4503599627370496, Bool.eq_iff_iff]; simp; omega
  by_cases hs : rg x < 4503599627370496
  · obtain ⟨y, hy, hn⟩ := normd_mul hx h0 hs
    have k2 : decide (rg x < 4503599627370496) = true := by simp [hs]
    rw [k2] at k
    have HY := Lib.hid hy
    clear hy k2
    go_enter Tryd.func112, Tryd.ntmps112
    go_wp2_with (first | (go_at_call 34; refine (abs_c _ hx _).mono ?_; rintro e w' ⟨rfl, rfl⟩) | (refine wp_arith .f64 x 4841369599423283200 rfl rfl rfl ?_; intro r n hr; obtain rfl := fr_some hr HY.out; clear hr))
    go_ret2
    exact ⟨_, _, rfl, hn, Dr.n _ _⟩
  · have k2 : decide (rg x < 4503599627370496) = false := by simp [hs]
    rw [k2] at k
    clear k2
    go_enter Tryd.func112, Tryd.ntmps112
    go_wp2_with (first | (go_at_call 34; refine (abs_c _ hx _).mono ?_; rintro e w' ⟨rfl, rfl⟩))
    go_ret2
    exact ⟨_, _, rfl, normd_id hx (by unfold B52; omega) h1, Dr.refl _⟩

theorem exp_u64 {y : Nat} (hy : W64 y) : bits BinOp.and IntKind.u64 ((y : Int) / 4503599627370496) 2047 = ((rg y / B52 : Nat) : Int) := by
  have h := hy.lt
  have e : ((y : Int) / 4503599627370496) = ((y / 4503599627370496 : Nat) : Int) := by omega
  have := u64_and_nat (y / 4503599627370496) 2047 (by omega) (by decide)
  rw [e, show (2047 : Int) = ((2047 : Nat) : Int) from rfl, this, rg_eq]
  congr 1
  rw [show (2047 : Nat) = 2 ^ 11 - 1 from rfl, Nat.and_two_pow_sub_one_eq_mod]
  unfold B52
  omega
theorem bits_and_i64_nat (a b : Nat) (ha : a < 9223372036854775808) (hb : b < 9223372036854775808) : bits BinOp.and IntKind.i64 (a : Int) (b : Int) = ((a &&& b : Nat) : Int) := by
  have h1 : (BitVec.ofInt 64 (a : Int)).toNat = a := by rw [BitVec.ofInt_natCast, BitVec.toNat_ofNat]; exact Nat.mod_eq_of_lt (by omega)
  have h2 : (BitVec.ofInt 64 (b : Int)).toNat = b := by rw [BitVec.ofInt_natCast, BitVec.toNat_ofNat]; exact Nat.mod_eq_of_lt (by omega)
  show IntKind.i64.wrap ((BitVec.ofInt 64 (a : Int) &&& BitVec.ofInt 64 (b : Int)).toNat : Int) = _
  rw [BitVec.toNat_and, h1, h2, IntKind.wrap_i64]
  have : a &&& b ≤ a := Nat.and_le_left
  omega
theorem exp_i64 {y : Nat} (hy : W64 y) : bits BinOp.and IntKind.i64 (wrap64 ((y : Int) / 4503599627370496)) 2047 = ((rg y / B52 : Nat) : Int) := by
  have h := hy.lt
  have e : wrap64 ((y : Int) / 4503599627370496) = ((y / 4503599627370496 : Nat) : Int) := by unfold wrap64; omega
  have := bits_and_i64_nat (y / 4503599627370496) 2047 (by omega) (by decide)
  rw [e, show (2047 : Int) = ((2047 : Nat) : Int) from rfl, this, rg_eq]
  congr 1
  rw [show (2047 : Nat) = 2 ^ 11 - 1 from rfl, Nat.and_two_pow_sub_one_eq_mod]
  unfold B52
  omega
theorem normd_at64 {x y : Nat} {e : Int} (h : Normd x y e) : ∃ E : Nat, Hid (rg y / B52 = E) ∧ 1 ≤ E ∧ E ≤ 2046 ∧ bits BinOp.and IntKind.u64 ((y : Int) / 4503599627370496) 2047 = (E : Int) ∧ bits BinOp.and IntKind.i64 (wrap64 ((y : Int) / 4503599627370496)) 2047 = (E : Int) ∧ (FloatKind.f64.format.order y 0 == some .lt) = neg x :=
  ⟨rg y / B52, Lib.hid rfl, (Nat.one_le_div_iff B52_pos).2 h.lo, Nat.le_of_lt_succ h.E, exp_u64 h.w, exp_i64 h.w, by
    rw [t_lt h.w (w_const (by decide)), plc0, isn0, isn_eq, ← h.s, Bool.eq_iff_iff]
    have h1 := h.hi
    have h2 := h.lo
    unfold B52 at h2
    simp only [Bool.and_eq_true, Bool.not_eq_true', decide_eq_false_iff_not, decide_eq_true_eq, plc_lt_zero]
    constructor
    · intro h3; exact h3.2.1
    · intro h3; exact ⟨⟨by omega, by decide⟩, h3, by omega⟩⟩
theorem u64_keep {x E : Nat} (hx : W64 x) (hE : E < 2048) : bits BinOp.or IntKind.u64 (bits BinOp.andNot IntKind.u64 (↑x) 9218868437227405312) ((E * B52 : Nat) : Int) = ((wd (neg x) (E * B52 + rg x % B52) : Nat) : Int) := by
  have h := hx.lt
  have h1 := u64_andNot_nat x 9218868437227405312 h (by decide)
  rw [show ((9218868437227405312 : Nat) : Int) = 9218868437227405312 from rfl] at h1
  have h2 : x &&& (18446744073709551615 - 9218868437227405312) = (if 9223372036854775808 ≤ x then 9223372036854775808 else 0) ||| x % B52 := by
    rw [show (18446744073709551615 - 9218868437227405312 : Nat) = 2 ^ 63 ||| (2 ^ 52 - 1) from by decide, Nat.and_or_distrib_left, Nat.and_two_pow_sub_one_eq_mod]
    congr 1
    have h3 := u64_hi h
    have h4 := u64_and_nat x 9223372036854775808 h (by decide)
    rw [show ((9223372036854775808 : Nat) : Int) = 9223372036854775808 from rfl] at h4
    rw [h4] at h3
    exact Int.ofNat_inj.1 h3
  have ht : x % B52 < 2 ^ 52 := Nat.mod_lt _ B52_pos
  have hrt : rg x % B52 = x % B52 := by rw [rg_eq]; unfold B52; omega
  have hs : (if 9223372036854775808 ≤ x then 9223372036854775808 else 0) ||| x % B52 = (if 9223372036854775808 ≤ x then 9223372036854775808 else 0) + x % B52 := by
    split
    · exact (Nat.two_pow_add_eq_or_of_lt (i := 63) (by unfold B52 at *; omega) 1).symm
    · simp
  rw [h1, h2, u64_or_nat _ _ (by rw [hs]; split <;> unfold B52 at * <;> omega) (by unfold B52; omega)]
  congr 1
  have h5 : x % B52 ||| E * B52 = E * B52 + x % B52 := by
    rw [Nat.or_comm, show E * B52 = 2 ^ 52 * E from by unfold B52; omega]
    exact (Nat.two_pow_add_eq_or_of_lt ht E).symm
  rw [Nat.or_assoc, h5, wd_eq, neg_eq, hrt]
  by_cases hh : 9223372036854775808 ≤ x
  · simp only [hh, if_true, decide_true]
    exact (Nat.two_pow_add_eq_or_of_lt (i := 63) (by unfold B52 at *; omega) 1).symm
  · simp [hh]
def FrexpPost (x : Nat) (w : World) (e : Ending) (w' : World) : Prop := ∃ y k, e = .returned (.tuple #[.float .f64 (wd (neg x) (1022 * B52 + rg y % B52)), .int .i64 (k + (rg y / B52 : Nat) - 1022)]) ∧ Normd x y k ∧ Dr w w'
theorem frexp_c (x : Nat) (hx : W64 x) (h0 : 0 < rg x) (h1 : rg x < 9218868437227405312) (w : World) : Calls Tryd.prog 99 #[.float .f64 x] w (FrexpPost x w) := by
  have k0 : (FloatKind.f64.format.order x 0 == some .eq) = false := by
    rw [t_eq hx (w_const (by decide)), plc0]
    have : ¬ plc x = 0 := by rw [plc_zero]; omega
    simp [this]
  have k1 : infS x 0 = false := by
    have : ¬ rg x = 9218868437227405312 := by omega
    simp [infS, this]
  have k2 : isn x = false := by rw [isn_eq]; simp; omega
  go_enter Tryd.func99, Tryd.ntmps99
  go_wp2_with (first | (go_at_call 97; refine (isInf_c _ _ hx _).mono ?_; rintro e w' ⟨rfl, rfl⟩) | (go_at_call 111; refine (isNaN_c _ hx _).mono ?_; rintro e w' ⟨rfl, rfl⟩) | (go_at_call 112; refine (normalize_c _ hx h0 h1 _).mono ?_; rintro e w' ⟨y, k, rfl, hn, ⟨⟨nq, rfl⟩⟩⟩; have hk1 := hn.k1; have hk2 := hn.k2; obtain ⟨E, HE, he1, he2, hy, hy', hy2⟩ := normd_at64 hn))
  go_ret2
  refine ⟨y, k, ret_float_int ?_ ?_, hn, Dr.n _ _⟩
  · have := u64_keep hn.w (E := 1022) (by decide)
    rw [show ((1022 * B52 : Nat) : Int) = 4602678819172646912 from by decide] at this
    rw [this, hn.s]; rfl
  · rw [HE.out]; omega
theorem frexp_cc (x : Nat) (hx : W64 x) (h0 : 0 < rg x) (h1 : rg x < 9218868437227405312) (w : World) : Calls Tryd.prog 81 #[.float .f64 x] w (FrexpPost x w) := by
  go_enter Tryd.func81, Tryd.ntmps81
  go_wp2_with (first | (go_at_call 99; refine (frexp_c _ hx h0 h1 _).mono ?_; rintro e w' ⟨y, k, rfl, hn, ⟨⟨nq, rfl⟩⟩⟩))
  go_ret2
  exact ⟨y, k, rfl, hn, Dr.n _ _⟩
theorem csgn0 (y : Nat) : csgn 0 y = wd (neg y) 0 := by unfold csgn; rw [show rg 0 = 0 from by decide]
theorem ld_bits {y : Nat} (hy : W64 y) (X : Int) (h0 : 0 ≤ X) (h1 : X < 2048) : (bits BinOp.or IntKind.u64 (bits BinOp.andNot IntKind.u64 (↑y) 9218868437227405312) (X * 4503599627370496)).toNat = wd (neg y) (X.toNat * B52 + rg y % B52) := by
  have := u64_keep hy (E := X.toNat) (by omega)
  have e : ((X.toNat * B52 : Nat) : Int) = X * 4503599627370496 := by unfold B52; omega
  rw [e] at this
  rw [this]; rfl
def LdexpPost (x : Nat) (k : Int) (w : World) (e : Ending) (w' : World) : Prop := ∃ z, e = .returned (.float .f64 z) ∧ IsLd x k z ∧ Dr w w'
theorem ldexp_c (x : Nat) (k : Int) (hx : W64 x) (h0 : 0 < rg x) (h1 : rg x < 9218868437227405312) (hk1 : -100000 ≤ k) (hk2 : k ≤ 100000) (w : World) : Calls Tryd.prog 101 #[.float .f64 x, .int .i64 k] w (LdexpPost x k w) := by
  have k0 : (FloatKind.f64.format.order x 0 == some .eq) = false := by
    rw [t_eq hx (w_const (by decide)), plc0]
    have : ¬ plc x = 0 := by rw [plc_zero]; omega
    simp [this]
  have k1 : infS x 0 = false := by
    have : ¬ rg x = 9218868437227405312 := by omega
    simp [infS, this]
  have k2 : isn x = false := by rw [isn_eq]; simp; omega
  go_enter Tryd.func101, Tryd.ntmps101
  go_wp2_with (first | (go_at_call 97; refine (isInf_c _ _ hx _).mono ?_; rintro e w' ⟨rfl, rfl⟩) | (go_at_call 111; refine (isNaN_c _ hx _).mono ?_; rintro e w' ⟨rfl, rfl⟩) | (go_at_call 112; refine (normalize_c _ hx h0 h1 _).mono ?_; rintro e w' ⟨y, e1, rfl, hn, ⟨⟨nq, rfl⟩⟩⟩; have hq1 := hn.k1; have hq2 := hn.k2; obtain ⟨E, HE, he1, he2, hy, hy', hy2⟩ := normd_at64 hn) | (go_at_call 113; refine (copysign_c _ _ (w_const (by decide)) hn.w _).mono ?_; rintro e w' ⟨rfl, rfl⟩) | (go_at_call 114; refine (inf_c _ _).mono ?_; rintro e w' ⟨rfl, rfl⟩) | (refine wp_arith .f64 _ _ rfl rfl rfl ?_; intro r n hr))
  all_goals go_ret
  · exact ⟨_, rfl, by rw [csgn0, hn.s]; exact isLd_under hn (e := k) (k + e1 + ((E : Int) - 1023)) (by rw [HE.out]; omega) (by assumption), Dr.n _ _⟩
  · refine ⟨_, rfl, ?_, Dr.n _ _⟩
    have h := isLd_over hn (e := k) (k + e1 + ((E : Int) - 1023)) (by rw [HE.out]; omega) (by assumption)
    rw [‹neg x = true›] at h
    exact h
  · refine ⟨_, rfl, ?_, Dr.n _ _⟩
    have h := isLd_over hn (e := k) (k + e1 + ((E : Int) - 1023)) (by rw [HE.out]; omega) (by assumption)
    rw [‹neg x = false›] at h
    exact h
  · obtain ⟨z, hz, hl⟩ := isLd_sub hn (e := k) (k + e1 + ((E : Int) - 1023)) (by rw [HE.out]; omega) (by assumption) (by assumption)
    rw [← hn.s, ← ld_bits hn.w _ (by omega) (by omega)] at hz
    obtain rfl := fr_some hr hz
    exact ⟨_, rfl, hl, Dr.n _ _⟩
  · have hl := isLd_norm hn (e := k) (k + e1 + ((E : Int) - 1023)) (by rw [HE.out]; omega) (by assumption) (by assumption)
    have hR : (k + e1 + ((E : Int) - 1023) + 1023).toNat * B52 + rg y % B52 < 9218868437227405312 := by
      have := Nat.mod_lt (rg y) B52_pos
      unfold B52 at *
      omega
    have hz := mul_one64 (wd_w (s := neg y) (r := (k + e1 + ((E : Int) - 1023) + 1023).toNat * B52 + rg y % B52) (by omega)) (by rw [wd_rg (by omega)]; exact hR)
    rw [← ld_bits hn.w _ (by omega) (by omega)] at hz
    obtain rfl := fr_some hr hz
    rw [ld_bits hn.w _ (by omega) (by omega), hn.s]
    exact ⟨_, rfl, hl, Dr.n _ _⟩
theorem ldexp_cc (x : Nat) (k : Int) (hx : W64 x) (h0 : 0 < rg x) (h1 : rg x < 9218868437227405312) (hk1 : -100000 ≤ k) (hk2 : k ≤ 100000) (w : World) : Calls Tryd.prog 82 #[.float .f64 x, .int .i64 k] w (LdexpPost x k w) := by
  go_enter Tryd.func82, Tryd.ntmps82
  go_wp2_with (first | (go_at_call 101; refine (ldexp_c _ _ hx h0 h1 hk1 hk2 _).mono ?_; rintro e w' ⟨z, rfl, hl, ⟨⟨nq, rfl⟩⟩⟩))
  go_ret
  exact ⟨z, rfl, hl, Dr.n _ _⟩
/-- Of a nought: itself. -/
theorem ldexp_0 (x : Nat) (k : Int) (hx : W64 x) (h0 : rg x = 0) (w : World) : Calls Tryd.prog 101 #[.float .f64 x, .int .i64 k] w fun e w' => e = .returned (.float .f64 x) ∧ w' = w := by
  have k0 : (FloatKind.f64.format.order x 0 == some .eq) = true := by
    rw [t_eq hx (w_const (by decide)), plc0, isn0, isn_eq]
    have : plc x = 0 := by rw [plc_zero]; exact h0
    simp [this, h0]
  go_enter Tryd.func101, Tryd.ntmps101
  go_wp2
  go_ret
  exact ⟨rfl, rfl⟩
theorem ldexp_00 (x : Nat) (k : Int) (hx : W64 x) (h0 : rg x = 0) (w : World) : Calls Tryd.prog 82 #[.float .f64 x, .int .i64 k] w fun e w' => e = .returned (.float .f64 x) ∧ w' = w := by
  go_enter Tryd.func82, Tryd.ntmps82
  go_wp2_with (first | (go_at_call 101; refine (ldexp_0 _ _ hx h0 _).mono ?_; rintro e w' ⟨rfl, rfl⟩))
  go_ret
  exact ⟨rfl, rfl⟩
end Go.Proofs.YtfjiojdnbdfenaaDoor


/- math/bits.Len64, by the shelf's contract, in plain words (written by the kit's lay-plain at a seat; numbers by name). -/
namespace Go.Proofs.YtfjiojdnbdfenaaDoor
open Go Go.Shelf
end Go.Proofs.YtfjiojdnbdfenaaDoor


/- What Split, Join and Ulp answer. -/
namespace Go.Proofs.YtfjiojdnbdfenaaDoor
open Go Go.RowKit GFl
set_option maxRecDepth 100000
attribute [local go_sem] run_f64bits run_f64frombits run_neg_f64

/-- The table of math/bits lies as its text has it. -/
def Tab (w : World) : Prop := TabAt 1 Lib.deBruijn64tab w
theorem Tab.below {w w1 : World} (h : Tab w) (hb : Below w.heap.size w w1) : Tab w1 := fun j hj => by
  have hc := h j hj
  exact (hb.cell (World.block_lt_of_cell? w _ hc)).trans hc
theorem tz64_z (w : World) : Calls Tryd.prog 83 #[.int .u64 0] w fun e w' => e = .returned (.int .i64 64) ∧ w' = w := by
  go_enter Tryd.func83, Tryd.ntmps83
  go_wp2
  go_ret
  exact ⟨rfl, rfl⟩
theorem tz64_core (x k idx : Nat) (w : World) (hx0 : ((x : Int) == 0) = false)
    (key : IntKind.u64.wrap (bits BinOp.and IntKind.u64 (x : Int) (IntKind.u64.wrap (-(x : Int))) * 285870213051353865) / 288230376151711744 = (idx : Int))
    (hi : idx < 64) (hk : k < 64) (hcell : w.cell? ⟨1, idx, none⟩ = some (.int .u8 k)) :
    Calls Tryd.prog 83 #[.int .u64 x] w fun e w' => e = .returned (.int .i64 k) ∧ w' = w := by
  go_enter Tryd.func83, Tryd.ntmps83
  go_wp2_with (simp only [key])
  go_ret
  exact ⟨rfl, rfl⟩
theorem tz64_c (x : Nat) (hx : x < 18446744073709551616) (w : World) (hT : Tab w) :
    Calls Tryd.prog 83 #[.int .u64 x] w fun e w' => e = .returned (.int .i64 (Lib.ctz 64 x)) ∧ w' = w := by
  by_cases hx0 : x = 0
  · subst hx0
    exact tz64_z w
  · obtain ⟨hlow, hk⟩ := Lib.lowest_bit 64 x hx0 hx
    obtain ⟨hi, htab⟩ := Lib.deBruijn64_at _ hk
    have hcell := hT _ hi
    rw [htab] at hcell
    exact tz64_core x _ _ w (by simp; omega) (tz64_key x _ hx hx0 hlow) hi hk hcell

theorem f2u {z m : Nat} (hz : W64 z) (hf : rg z < 9218868437227405312) (hn : neg z = false) (hm : mg B52 (rg z) = m * p2 1074) (hm1 : m < 18446744073709551616) : floatToIntVal .f64 z .u64 = some (m : Int) := by
  have h := toInt_whole hz hf hn hm
  have h' : (FloatKind.f64.decode z).toInt .zero = some (m : Int) := h
  unfold floatToIntVal
  rw [h']
  have a1 : IntKind.u64.min = 0 := by decide
  have a2 : IntKind.u64.max = 18446744073709551615 := by decide
  simp only [a1, a2]
  rw [if_pos (by omega)]

def SplitPost (x : Nat) (w : World) (e : Ending) (w' : World) : Prop := ∃ fr ex, e = .returned (.tuple #[.agg #[.bool (neg x), .int .u64 (fr : Nat), .int .i64 ex], .bool true]) ∧ IsSplit x fr ex ∧ fr < 9007199254740992 ∧ ex ≤ 1023 ∧ Below w.heap.size w w'
theorem split_no (x : Nat) (hx : W64 x) (h : 9218868437227405312 ≤ rg x) (w : World) : Calls Tryd.prog 64 #[.float .f64 x] w fun e w' => e = .returned (.tuple #[.agg #[.bool false, .int .u64 0, .int .i64 0], .bool false]) ∧ Below w.heap.size w w' := by
  have hk : 2 < kindF x := by unfold kindF; (repeat' split) <;> omega
  go_enter Tryd.func64, Tryd.ntmps64
  go_wp2_with (go_at_call 79; refine (kind_c _ hx _).mono ?_; rintro e w' ⟨rfl, rfl⟩)
  exact bodyPost_ret (v := .tuple #[.agg #[.bool false, .int .u64 0, .int .i64 0], .bool false]) (by simp [results, Tryd.results64, go_sem]) rfl ⟨rfl, (Below.refl _ _).alloc (Nat.le_refl _) _⟩
set_option maxHeartbeats 2000000 in
theorem split_yes (x : Nat) (hx : W64 x) (h0 : 0 < rg x) (h1 : rg x < 9218868437227405312) (w : World) (hT : Tab w) : Calls Tryd.prog 64 #[.float .f64 x] w (SplitPost x w) := by
  have hk : ¬ 2 < kindF x := by unfold kindF; (repeat' split) <;> omega
  have k0 : (FloatKind.f64.format.order x 0 == some .eq) = false := by
    rw [t_eq hx (w_const (by decide)), plc0]
    have : ¬ plc x = 0 := by rw [plc_zero]; omega
    simp [this]
  go_enter Tryd.func64, Tryd.ntmps64
  go_wp2_with (first | (go_at_call 79; refine (kind_c _ hx _).mono ?_; rintro e w' ⟨rfl, rfl⟩) | (go_at_call 80; refine (signbit_c _ hx _).mono ?_; rintro e w' ⟨rfl, rfl⟩) | (go_at_call 34; refine (abs_c _ hx _).mono ?_; rintro e w' ⟨rfl, rfl⟩))
  refine (frexp_cc _ (fabs_w x) (by rw [fabs_rg]; exact h0) (by rw [fabs_rg]; exact h1) _).mono ?_
  rintro e w1 ⟨y, k, rfl, hn, ⟨⟨nq, rfl⟩⟩⟩
  have hk1 := hn.k1
  have hk2 := hn.k2
  have he2 := hn.E
  obtain ⟨E, hE⟩ : ∃ E, rg y / B52 = E := ⟨_, rfl⟩
  rw [hE]
  rw [hE] at he2
  have HE := Lib.hid hE
  clear hE
  have ht : rg y % B52 < B52 := Nat.mod_lt _ B52_pos
  have hR : 1022 * B52 + rg y % B52 < 9218868437227405312 := by unfold B52 at *; omega
  have hR63 : 1022 * B52 + rg y % B52 < 9223372036854775808 := by omega
  rw [fabs_neg]
  go_wp2_with fail
  refine (ldexp_cc _ _ (wd_w hR63) (by rw [wd_rg hR63]; unfold B52; omega) (by rw [wd_rg hR63]; exact hR) (by omega) (by omega) _).mono ?_
  rintro e w1 ⟨z, rfl, hl, ⟨⟨nq2, rfl⟩⟩⟩
  obtain ⟨z1, z2, z3, z4⟩ := split_m ht hl
  obtain ⟨m, hm⟩ : ∃ m, B52 + rg y % B52 = m := ⟨_, rfl⟩
  rw [hm] at z4
  have hm1 : m < 9007199254740992 := by unfold B52 at *; omega
  have hm0 : 0 < m := by unfold B52 at *; omega
  have hcv : ∀ w, (convert 25 68 (.float .f64 z)).run Tryd.prog w = .ok (.int .u64 (m : Nat)) w := fun w => run_convert_float_int w _ _ .f64 .u64 z m rfl rfl (f2u z1 z2 z3 z4 (by omega))
  obtain ⟨j, hj, hn63⟩ := Lib.ctzFrom_spec 64 m hm0 (by omega)
  have hct : Lib.ctz 64 m = Lib.ctzFrom 64 m := by unfold Lib.ctz; rw [if_neg (by omega)]
  rw [← hct] at hj hn63
  have Z := Lib.hid (And.intro z1 (And.intro z2 (And.intro z3 z4)))
  have HM := Lib.hid hm
  have HJ := Lib.hid hj
  clear z1 z2 z3 z4 hm hj hct ht hR hR63
  go_wp2_with fail
  refine (tz64_c m (by omega) _ ?_).mono ?_
  · exact hT.below (by repeat' (first | (with_reducible exact Below.refl _ _) | (with_reducible refine bl_alloc ?_ _) | (with_reducible refine bl_drewN ?_ _) | (with_reducible refine bl_drew ?_) | (with_reducible refine bl_set ?_ _ (by simp))))
  rintro e w1 ⟨rfl, rfl⟩
  go_wp2
  have hok := split_ok (n := Lib.ctz 64 m) (j := j) hn (by rw [p2_def]; exact HM.out.trans HJ.out)
  have hc53 : Lib.ctz 64 m < 53 := by
    rcases Nat.lt_or_ge (Lib.ctz 64 m) 53 with h | h
    · exact h
    · have h2 : 2 ^ 53 ≤ 2 ^ Lib.ctz 64 m := Nat.pow_le_pow_right (by decide) h
      have h3 := HJ.out
      have h4 : 2 ^ Lib.ctz 64 m ≤ 2 ^ Lib.ctz 64 m * (2 * j + 1) := Nat.le_mul_of_pos_right _ (by omega)
      omega
  rw [HE.out] at hok
  have hdiv : (m : Int) / 2 ^ Lib.ctz 64 m = ((2 * j + 1 : Nat) : Int) := by
    have h1 : m / 2 ^ Lib.ctz 64 m = 2 * j + 1 := by
      have := HJ.out
      conv => lhs; lhs; rw [this]
      exact Nat.mul_div_cancel_left _ (Nat.two_pow_pos _)
    rw [← h1]; simp
  have hlt : 2 * j + 1 < 9007199254740992 := by
    have h1 : m / 2 ^ Lib.ctz 64 m ≤ m := Nat.div_le_self _ _
    have h2 : m / 2 ^ Lib.ctz 64 m = 2 * j + 1 := by
      have := HJ.out
      conv => lhs; lhs; rw [this]
      exact Nat.mul_div_cancel_left _ (Nat.two_pow_pos _)
    omega
  refine bodyPost_ret (v := .tuple #[.agg #[.bool (neg x), .int .u64 ((m : Int) / 2 ^ Lib.ctz 64 m), .int .i64 (k + (E : Int) - 1022 - 53 + (Lib.ctz 64 m : Nat))], .bool true]) (by simp [results, Tryd.results64, go_sem]) rfl ?_
  rw [hdiv]
  refine ⟨2 * j + 1, k + (E : Int) - 1022 - 53 + (Lib.ctz 64 m : Nat), rfl, ?_, hlt, by omega, ?_⟩
  · exact ⟨hok.odd, hok.lo, by rw [hok.eq, fabs_rg]⟩
  · repeat' (first | (with_reducible exact Below.refl _ _) | (with_reducible refine bl_alloc ?_ _) | (with_reducible refine bl_drewN ?_ _) | (with_reducible refine bl_drew ?_) | (with_reducible refine bl_set ?_ _ (by simp)))
theorem split_z (x : Nat) (hx : W64 x) (h0 : rg x = 0) (w : World) : Calls Tryd.prog 64 #[.float .f64 x] w fun e w' => e = .returned (.tuple #[.agg #[.bool (neg x), .int .u64 0, .int .i64 0], .bool true]) ∧ Below w.heap.size w w' := by
  have hk : ¬ 2 < kindF x := by unfold kindF; (repeat' split) <;> omega
  have k0 : (FloatKind.f64.format.order x 0 == some .eq) = true := by
    rw [t_eq hx (w_const (by decide)), plc0, isn0, isn_eq]
    have : plc x = 0 := by rw [plc_zero]; exact h0
    simp [this, h0]
  go_enter Tryd.func64, Tryd.ntmps64
  go_wp2_with (first | (go_at_call 79; refine (kind_c _ hx _).mono ?_; rintro e w' ⟨rfl, rfl⟩) | (go_at_call 80; refine (signbit_c _ hx _).mono ?_; rintro e w' ⟨rfl, rfl⟩))
  refine bodyPost_ret (v := .tuple #[.agg #[.bool (neg x), .int .u64 0, .int .i64 0], .bool true]) (by simp [results, Tryd.results64, go_sem]) rfl ⟨rfl, ?_⟩
  repeat' (first | (with_reducible exact Below.refl _ _) | (with_reducible refine bl_alloc ?_ _) | (with_reducible refine bl_drewN ?_ _) | (with_reducible refine bl_drew ?_) | (with_reducible refine bl_set ?_ _ (by simp)))
end Go.Proofs.YtfjiojdnbdfenaaDoor


/- bignum's NewInt; sturm's whole. -/
namespace Go.Proofs.YtfjiojdnbdfenaaDoor
open Go Go.RowKit Nv GFl
set_option maxRecDepth 100000

/-- A new number is told. -/
def NPost (v : Int) (w : World) (e : Ending) (w' : World) : Prop := ∃ b, e = .returned (pt b) ∧ w.heap.size ≤ b ∧ IntAt w' b v ∧ Below w.heap.size w w'
theorem words_w' (x : Nat) (hx : x < 18446744073709551616) (X : Int) (hX : X = x) (w : World) : Calls Tryd.prog 85 #[.int .u64 X] w (WPost x w) := by subst hX; exact words_w x hx w
theorem setI_c {w : World} {z : Nat} {u : Int} (hz : IntAt w z u) (v : Int) (h1 : -9223372036854775808 ≤ v) (h2 : v ≤ 9223372036854775807) : Calls Tryd.prog 88 #[pt z, .int .i64 v] w (GPost z v w) := by
  obtain ⟨zg, zs, a, hz⟩ := hz.rd
  have HZ0 := Lib.hid hz
  clear hz
  by_cases hv : v < 0
  · have w1 : IntKind.u64.wrap v = v + 18446744073709551616 := by rw [IntKind.wrap_u64]; omega
    have w2 : IntKind.u64.wrap (-(v + 18446744073709551616)) = -v := by rw [IntKind.wrap_u64]; omega
    have ww : ∀ w, Calls Tryd.prog 85 #[.int .u64 (-v)] w (WPost v.natAbs w) := fun w => words_w' v.natAbs (by omega) _ (by omega) w
    have d0 : decide (v < 0) = true := decide_eq_true hv
    have e0 : sg true (v.natAbs : Int) = v := by unfold sg; simp; omega
    have E0 := Lib.hid e0
    have WW := Lib.hid ww
    clear hv h1 h2 e0 ww
    obtain ⟨X, hX⟩ : ∃ X, v + 18446744073709551616 = X := ⟨_, rfl⟩
    rw [hX] at w1 w2
    have HX := Lib.hid hX
    clear hX
    go_enter Tryd.func88, Tryd.ntmps88
    go_wp2_with (first
      | (go_at_call 85; refine (WW.out _).mono ?_; rintro e w1 ⟨v1, rfl, hW, hb⟩; have HW := Lib.hid hW; have HB := Lib.hid hb; clear hW hb)
      | (go_at_call 84; refine (give_c (HZ0.out.blk.below HB.out) HZ0.out.wd.sl HW.out true).mono ?_; rintro e w2 ⟨rfl, hI, hz⟩; have HI := Lib.hid hI; have HZ := Lib.hid hz; clear hI hz))
    go_ret
    exact ⟨rfl, by rw [← E0.out]; exact HI.out, (Bz.of HB.out).trans HZ.out⟩
  · have w1 : IntKind.u64.wrap v = v := by rw [IntKind.wrap_u64]; omega
    have ww : ∀ w, Calls Tryd.prog 85 #[.int .u64 v] w (WPost v.natAbs w) := fun w => words_w' v.natAbs (by omega) _ (by omega) w
    have d0 : decide (v < 0) = false := decide_eq_false hv
    have e0 : sg false (v.natAbs : Int) = v := by unfold sg; simp; omega
    have E0 := Lib.hid e0
    have WW := Lib.hid ww
    clear hv h1 h2 e0 ww
    go_enter Tryd.func88, Tryd.ntmps88
    go_wp2_with (first
      | (go_at_call 85; refine (WW.out _).mono ?_; rintro e w1 ⟨v1, rfl, hW, hb⟩; have HW := Lib.hid hW; have HB := Lib.hid hb; clear hW hb)
      | (go_at_call 84; refine (give_c (HZ0.out.blk.below HB.out) HZ0.out.wd.sl HW.out false).mono ?_; rintro e w2 ⟨rfl, hI, hz⟩; have HI := Lib.hid hI; have HZ := Lib.hid hz; clear hI hz))
    go_ret
    exact ⟨rfl, by rw [← E0.out]; exact HI.out, (Bz.of HB.out).trans HZ.out⟩
theorem newInt_c (v : Int) (h1 : -9223372036854775808 ≤ v) (h2 : v ≤ 9223372036854775807) (w : World) : Calls Tryd.prog 68 #[.int .i64 v] w (NPost v w) := by
  have iz := IntAt.zero w
  have IZ := Lib.hid iz
  clear iz
  go_enter Tryd.func68, Tryd.ntmps68
  go_wp2_with (first
    | (go_at_call 88; refine (setI_c IZ.out v h1 h2).mono ?_; rintro e w2 ⟨rfl, hI, hz⟩; have HI := Lib.hid hI; have HZ := Lib.hid hz; clear hI hz))
  go_ret
  exact ⟨_, rfl, Nat.le_refl _, HI.out, HZ.out.below ((Below.refl _ _).alloc (Nat.le_refl _) _) (by simp) (Nat.le_refl _)⟩
theorem p2_int (n : Nat) : ((p2 n : Nat) : Int) = 2 ^ n := by unfold p2; push_cast; rfl
theorem pow_le_pow {m n : Nat} (h : m ≤ n) : (2 : Int) ^ m ≤ 2 ^ n := by
  obtain ⟨k, rfl⟩ : ∃ k, n = m + k := ⟨n - m, by omega⟩
  rw [Int.pow_add]
  have h1 : (0 : Int) < 2 ^ m := Int.pow_pos (by decide)
  have h2 : (0 : Int) < 2 ^ k := Int.pow_pos (by decide)
  have h3 : (2 : Int) ^ m * 1 ≤ 2 ^ m * 2 ^ k := Int.mul_le_mul_of_nonneg_left (by omega) (Int.le_of_lt h1)
  rw [Int.mul_one] at h3
  exact h3
theorem sm_pow {n : Int} (m : Nat) (h : n < 2 ^ m) (hm : m ≤ 32 * 1000000) : Sm n := by
  unfold Sm
  exact Int.lt_of_lt_of_le h (Int.le_trans (pow_le_pow hm) (Int.le_of_eq (XBn.pow_bs 1000000)))
theorem sm_nat {n m : Nat} (h : n < 2 ^ m) (hm : m ≤ 32 * 1000000) : Sm (n : Int) := sm_pow m (by exact_mod_cast h) hm
theorem IntAt.new {w : World} {z : Nat} (h : z = w.heap.size) : IntAt (w.alloc (.cells #[.bool false, .slice none 0 0] 88)) z 0 := by subst h; exact IntAt.zero w
theorem whole_val {x fr E : Nat} {ex : Int} (hs : IsSplit x fr ex) (hE : ex + 1074 = E) : ((fr : Int) * 2 ^ E) = (mg B52 (rg x) : Int) := by
  have h1 := hs.eq
  rw [hE, Int.toNat_natCast] at h1
  rw [← h1, ← p2_int]; push_cast; rfl
theorem fr_bound {fr E : Nat} (hf : fr < 9007199254740992) (hE : E ≤ 2097) : Sm (((fr : Int) * 2 ^ E).natAbs : Int) := by
  have e : (((fr : Int) * 2 ^ E).natAbs : Int) = ((fr * 2 ^ E : Nat) : Int) := by rw [Int.natAbs_mul, Int.natAbs_pow]; simp
  rw [e]
  refine sm_nat (m := 53 + E) ?_ (by omega)
  rw [Nat.pow_add]
  have h1 : 0 < 2 ^ E := Nat.two_pow_pos E
  have h2 : fr * 2 ^ E < 9007199254740992 * 2 ^ E := (Nat.mul_lt_mul_right h1).2 hf
  have h3 : (2 : Nat) ^ 53 = 9007199254740992 := by decide
  rw [h3]; exact h2
set_option maxHeartbeats 1600000 in
theorem whole_z (x : Nat) (hx : W64 x) (h0 : rg x = 0) (w : World) : Calls Tryd.prog 54 #[.float .f64 x] w (NPost (val x) w) := by
  have sp := split_z x hx h0 w
  have hv : val x = 0 := by rw [val_eq', h0]; simp [mg]
  have HV := Lib.hid hv
  have qs : Sm ((0 : Int).natAbs : Int) := sm_pow 1 (by decide) (by omega)
  have QS := Lib.hid qs
  clear hv hx h0 qs
  cases hn : neg x
  all_goals
    rw [hn] at sp
    have SP := Lib.hid sp
    clear sp hn
    go_enter Tryd.func54, Tryd.ntmps54
    go_wp2_with (first
      | (go_at_call 64; refine SP.out.mono ?_; rintro e w1 ⟨rfl, hb⟩; have HB := Lib.hid hb; clear hb)
      | (go_at_call 65; refine (setU_c (z := w1.heap.size + 1) (IntAt.new (by simp)) 0 (by omega)).mono ?_; rintro e w2 ⟨rfl, hI, hz⟩; have HI := Lib.hid hI; have HZ := Lib.hid hz
         have hk : w2.heap[w1.heap.size]? = _ := (hz.block w1.heap.size (by simp; omega) (by omega)).trans (kb_alloc (kb_new (Below.refl _ _)))
         have k0 := kb_cell hk (i := 0) rfl
         have k2 := kb_cell hk (i := 2) rfl
         have HK2 := Lib.hid hk
         clear hI hz hk)
      | (go_at_call 66; refine (lsh_c HI.out HI.out 1074 (by omega) QS.out).mono ?_; rintro e w3 ⟨rfl, hI, hz⟩
         have hk : w3.heap[w1.heap.size]? = _ := (hz.block w1.heap.size (kb_lt HK2.out) (by omega)).trans HK2.out
         have k0' := kb_cell hk (i := 0) rfl
         have HI3 := Lib.hid hI; have HZ3 := Lib.hid (HZ.out.trans hz); clear hI hz hk)
      | (go_at_call 67; refine (neg_c HI3.out HI3.out (by rw [Int.natCast_zero, Int.zero_mul]; exact QS.out)).mono ?_; rintro e w4 ⟨rfl, hI, hz⟩
         have HI4 := Lib.hid hI; have HZ4 := Lib.hid (HZ3.out.trans hz); clear hI hz))
    go_ret
    first
      | exact ⟨_, rfl, by have := HB.out.size; omega, by have h2 := HI4.out; rw [Int.natCast_zero, Int.zero_mul, Int.neg_zero] at h2; rw [HV.out]; exact h2, HZ4.out.below ((HB.out.alloc HB.out.size _).alloc (by have := HB.out.size; simp; omega) _) (by have := HB.out.size; simp; omega) (by have := HB.out.size; omega)⟩
      | exact ⟨_, rfl, by have := HB.out.size; omega, by have h2 := HI3.out; rw [Int.natCast_zero, Int.zero_mul] at h2; rw [HV.out]; exact h2, HZ3.out.below ((HB.out.alloc HB.out.size _).alloc (by have := HB.out.size; simp; omega) _) (by have := HB.out.size; simp; omega) (by have := HB.out.size; omega)⟩
set_option maxHeartbeats 1600000 in
theorem whole_p (x : Nat) (hx : W64 x) (h0 : 0 < rg x) (h1 : rg x < 9218868437227405312) (w : World) (hT : Tab w) : Calls Tryd.prog 54 #[.float .f64 x] w (NPost (val x) w) := by
  have sp := split_yes x hx h0 h1 w hT
  have hv := val_eq' x
  clear hT hx h0 h1
  unfold SplitPost at sp
  cases hn : neg x
  all_goals
    rw [hn] at sp hv
    have SP := Lib.hid sp
    have HV := Lib.hid hv
    clear sp hn hv
    go_enter Tryd.func54, Tryd.ntmps54
    go_wp2_with (first
      | (go_at_call 64; refine SP.out.mono ?_; rintro e w1 ⟨fr, ex, rfl, hs, hfr, hex, hb⟩
         obtain ⟨E, hE⟩ : ∃ E : Nat, ex + 1074 = E := ⟨(ex + 1074).toNat, by have := hs.lo; omega⟩
         have hE2 : E ≤ 2097 := by omega
         have q1 : wrap64 (E : Int) = (E : Int) := by unfold wrap64; omega
         have q3 : IntKind.u64.wrap (E : Int) = (E : Int) := by rw [IntKind.wrap_u64]; omega
         have QS := Lib.hid (fr_bound hfr hE2)
         have QF : Hid (Sm ((fr : Int).natAbs : Int)) := Lib.hid (sm_nat (m := 53) (by rw [Int.natAbs_natCast]; exact hfr) (by omega))
         have HS := Lib.hid (whole_val hs hE)
         have HF := Lib.hid hfr
         have HB := Lib.hid hb
         have HE2 := Lib.hid hE2
         clear hs hfr hex hE2 hb)
      | (go_at_call 65; refine (setU_c (z := w1.heap.size + 1) (IntAt.new (by simp)) fr (by have := HF.out; omega)).mono ?_; rintro e w2 ⟨rfl, hI, hz⟩; have HI := Lib.hid hI; have HZ := Lib.hid hz
         have hk : w2.heap[w1.heap.size]? = _ := (hz.block w1.heap.size (by simp; omega) (by omega)).trans (kb_alloc (kb_new (Below.refl _ _)))
         have k0 := kb_cell hk (i := 0) rfl
         have k2 := kb_cell hk (i := 2) rfl
         have HK2 := Lib.hid hk
         clear hI hz hk)
      | (go_at_call 66; (with_reducible refine (lsh_c HI.out HI.out E (by have := HE2.out; omega) QF.out).mono ?_); rintro e w3 ⟨rfl, hI, hz⟩
         have hk : w3.heap[w1.heap.size]? = _ := (hz.block w1.heap.size (kb_lt HK2.out) (by omega)).trans HK2.out
         have k0' := kb_cell hk (i := 0) rfl
         have HI3 := Lib.hid hI; have HZ3 := Lib.hid (HZ.out.trans hz); clear hI hz hk)
      | (go_at_call 67; refine (neg_c HI3.out HI3.out QS.out).mono ?_; rintro e w4 ⟨rfl, hI, hz⟩
         have HI4 := Lib.hid hI; have HZ4 := Lib.hid (HZ3.out.trans hz); clear hI hz))
    go_ret
    first
      | exact ⟨_, rfl, by have := HB.out.size; omega, by have h2 := HI4.out; rw [HS.out] at h2; rw [HV.out]; exact h2, HZ4.out.below ((HB.out.alloc HB.out.size _).alloc (by have := HB.out.size; simp; omega) _) (by have := HB.out.size; simp; omega) (by have := HB.out.size; omega)⟩
      | exact ⟨_, rfl, by have := HB.out.size; omega, by have h2 := HI3.out; rw [HS.out] at h2; rw [HV.out]; exact h2, HZ3.out.below ((HB.out.alloc HB.out.size _).alloc (by have := HB.out.size; simp; omega) _) (by have := HB.out.size; simp; omega) (by have := HB.out.size; omega)⟩
theorem whole_c (x : Nat) (hx : W64 x) (h1 : rg x < 9218868437227405312) (w : World) (hT : Tab w) : Calls Tryd.prog 54 #[.float .f64 x] w (NPost (val x) w) := by
  rcases Nat.eq_zero_or_pos (rg x) with h0 | h0
  · exact whole_z x hx h0 w
  · exact whole_p x hx h0 h1 w hT
end Go.Proofs.YtfjiojdnbdfenaaDoor


/- Plain laws: Sturm's count of a chain of whole numbers: rows (t, B): t what stands on the diagonal less the place, B the square of what couples the row to the one ahead (0: none). No program. -/
namespace St
set_option maxRecDepth 10000

/-- What couples the first row to the one ahead of it. -/
def hd : List (Int × Int) → Int
  | [] => 0
  | (_, B) :: _ => B
/-- A row's number, of the state (a, b): the row ahead's pivot is a over -b. -/
def nx (t B : Int) (q : Int × Int) : Int := t * q.1 + B * q.2
def st (n : Int) (q : Int × Int) : Int × Int := if n ≤ 0 then (-n, q.1) else (n, -q.1)
def pos (n : Int) : Int := if n ≤ 0 then 1 else 0
def ng (n : Int) : Int := if n < 0 then 1 else 0
/-- How many are below. -/
def bel : List (Int × Int) → Int × Int → Int
  | [], _ => 0
  | (t, B) :: r, q =>
    if hd r = 0 then ng (nx t B (if B = 0 then (1, 0) else q)) + bel r (1, 0)
    else pos (nx t B (if B = 0 then (1, 0) else q)) + bel r (st (nx t B (if B = 0 then (1, 0) else q)) (if B = 0 then (1, 0) else q))
theorem bel_cons (t B : Int) (r : List (Int × Int)) (q : Int × Int) : bel ((t, B) :: r) q = if hd r = 0 then ng (nx t B (if B = 0 then (1, 0) else q)) + bel r (1, 0)
    else pos (nx t B (if B = 0 then (1, 0) else q)) + bel r (st (nx t B (if B = 0 then (1, 0) else q)) (if B = 0 then (1, 0) else q)) := rfl
/-- A place where nothing couples parts the chain. -/
theorem bel_any {l : List (Int × Int)} (h : hd l = 0) (q q' : Int × Int) : bel l q = bel l q' := by
  cases l with
  | nil => rfl
  | cons x r => obtain ⟨t, B⟩ := x; have h : B = 0 := h; subst h; simp only [bel_cons, if_pos]
theorem hd_app {a b : List (Int × Int)} (h : a ≠ []) : hd (a ++ b) = hd a := by
  cases a with
  | nil => exact absurd rfl h
  | cons x r => rfl
theorem bel_app (b : List (Int × Int)) (hb : hd b = 0) : ∀ (a : List (Int × Int)) (q : Int × Int), bel (a ++ b) q = bel a q + bel b (1, 0) := by
  intro a
  induction a with
  | nil => intro q; rw [List.nil_append, bel_any hb q (1, 0)]; simp [bel]
  | cons x r ih =>
    obtain ⟨t, B⟩ := x
    intro q
    rw [List.cons_append, bel_cons, bel_cons]
    have e : hd (r ++ b) = hd r := by
      cases r with
      | nil => exact hb
      | cons y r => rfl
    rw [e, ih, ih]
    split <;> omega

/-- A state: a at least 0; b above 0 where a is 0. -/
structure Ok (q : Int × Int) : Prop where
  a : 0 ≤ q.1
  b : q.1 = 0 → 0 < q.2
theorem ok0 : Ok (1, 0) := ⟨by decide, by decide⟩
theorem nx_pos {t B : Int} {q : Int × Int} (h : Ok q) (hB : 0 < B) (h0 : q.1 = 0) : 0 < nx t B q := by
  unfold nx
  rw [h0, Int.mul_zero, Int.zero_add]
  exact Int.mul_pos hB (h.b h0)
theorem Ok.st {t B : Int} {q : Int × Int} (h : Ok q) (hB : 0 < B ∨ 0 < q.1) : Ok (St.st (nx t B q) q) := by
  unfold St.st
  by_cases hn : nx t B q ≤ 0
  · rw [if_pos hn]
    refine ⟨by show 0 ≤ - nx t B q; omega, fun h0 => ?_⟩
    show 0 < q.1
    rcases hB with hB | hB
    · have := h.a
      rcases Int.lt_or_eq_of_le this with h1 | h1
      · exact h1
      · have := nx_pos (t := t) h hB h1.symm; omega
    · exact hB
  · rw [if_neg hn]
    exact ⟨by show 0 ≤ nx t B q; omega, fun h0 => by have h0 : nx t B q = 0 := h0; omega⟩
/-- The state further on: u(q) at least u(p). -/
def Ge (q p : Int × Int) : Prop := p.2 * q.1 ≤ q.2 * p.1
theorem cross {t t' B : Int} {q p : Int × Int} (hq : Ok q) (hp : Ok p) (ht : t' ≤ t) (hB : 0 ≤ B) (h : Ge q p) : nx t' B p * q.1 ≤ nx t B q * p.1 := by
  unfold nx
  have h1 : B * (p.2 * q.1) ≤ B * (q.2 * p.1) := Int.mul_le_mul_of_nonneg_left h hB
  have h2 : t' * (p.1 * q.1) ≤ t * (p.1 * q.1) := Int.mul_le_mul_of_nonneg_right ht (Int.mul_nonneg hp.a hq.a)
  have e1 : (t' * p.1 + B * p.2) * q.1 = t' * (p.1 * q.1) + B * (p.2 * q.1) := by rw [Int.add_mul, Int.mul_assoc, Int.mul_assoc]
  have e2 : (t * q.1 + B * q.2) * p.1 = t * (p.1 * q.1) + B * (q.2 * p.1) := by rw [Int.add_mul, Int.mul_assoc, Int.mul_assoc, Int.mul_comm q.1 p.1]
  rw [e1, e2]
  omega
theorem sign_step {n m a c : Int} (ha : 0 ≤ a) (hc : 0 ≤ c) (h : m * a ≤ n * c) (h0 : a = 0 → 0 < n) (h1 : c = 0 → 0 < m) : (n ≤ 0 → m ≤ 0) ∧ (n < 0 → m < 0) := by
  constructor
  · intro hn
    apply Classical.byContradiction
    intro hm
    have ha' : 0 < a := by rcases Int.lt_or_eq_of_le ha with h | h; exact h; have := h0 h.symm; omega
    have : 0 < m * a := Int.mul_pos (by omega) ha'
    have : n * c ≤ 0 := Int.mul_nonpos_of_nonpos_of_nonneg hn hc
    omega
  · intro hn
    have ha' : 0 < a := by rcases Int.lt_or_eq_of_le ha with h | h; exact h; have := h0 h.symm; omega
    have hc' : 0 < c := by
      rcases Int.lt_or_eq_of_le hc with h2 | h2
      · exact h2
      · have hm := h1 h2.symm
        have : 0 < m * a := Int.mul_pos hm ha'
        rw [← h2, Int.mul_zero] at h
        omega
    have : n * c < 0 := Int.mul_neg_of_neg_of_pos hn hc'
    apply Classical.byContradiction
    intro hm
    have : 0 ≤ m * a := Int.mul_nonneg (by omega) ha
    omega
/-- As the place rises (so t falls) the count does not fall. -/
def Low : List (Int × Int) → List (Int × Int) → Prop
  | [], [] => True
  | (t, B) :: r, (t', B') :: r' => t' ≤ t ∧ B = B' ∧ 0 ≤ B ∧ Low r r'
  | _, _ => False
theorem Low.hd {r r' : List (Int × Int)} (h : Low r r') : St.hd r = St.hd r' ∧ 0 ≤ St.hd r := by
  match r, r', h with
  | [], [], _ => exact ⟨rfl, Int.le_refl _⟩
  | (t, B) :: r, (t', B') :: r', h => exact ⟨h.2.1, h.2.2.1⟩
theorem bel_mono : ∀ (r r' : List (Int × Int)), Low r r' → ∀ (q p : Int × Int) (k : Int), Ok q → Ok p → (0 < k ∨ (k = 0 ∧ (St.hd r = 0 ∨ Ge q p))) → bel r q ≤ bel r' p + k := by
  intro r
  induction r with
  | nil => intro r' h q p k _ _ hk; match r', h with | [], _ => simp [bel]; omega
  | cons x r ih =>
    intro r' h q p k hq hp hk
    obtain ⟨t, B⟩ := x
    match r', h with
    | (t', B') :: r', h =>
      obtain ⟨ht, rfl, hB, hl⟩ := h
      obtain ⟨e1, e2⟩ := hl.hd
      have hBB : St.hd ((t, B) :: r) = B := rfl
      rw [hBB] at hk
      rw [bel_cons, bel_cons, ← e1]
      generalize hq' : (if B = 0 then ((1, 0) : Int × Int) else q) = q'
      generalize hp' : (if B = 0 then ((1, 0) : Int × Int) else p) = p'
      have oq : Ok q' := by rw [← hq']; split; exact ok0; exact hq
      have op : Ok p' := by rw [← hp']; split; exact ok0; exact hp
      have cq : 0 < B ∨ 0 < q'.1 := by
        by_cases h0 : B = 0
        · right; rw [← hq', if_pos h0]; decide
        · left; omega
      have cp : 0 < B ∨ 0 < p'.1 := by
        by_cases h0 : B = 0
        · right; rw [← hp', if_pos h0]; decide
        · left; omega
      have nq : q'.1 = 0 → 0 < nx t B q' := fun h => nx_pos oq (by omega) h
      have np : p'.1 = 0 → 0 < nx t' B p' := fun h => nx_pos op (by omega) h
      have hge : 0 < k ∨ (k = 0 ∧ Ge q' p') := by
        rcases hk with hk | ⟨hk, h⟩
        · exact .inl hk
        · refine .inr ⟨hk, ?_⟩
          by_cases h0 : B = 0
          · rw [← hq', ← hp', if_pos h0, if_pos h0]; unfold Ge; decide
          · rw [← hq', ← hp', if_neg h0, if_neg h0]; exact h.resolve_left h0
      have oq2 := Ok.st (t := t) oq cq
      have op2 := Ok.st (t := t') op cp
      have hcr : k = 0 → Ge q' p' → _ := fun _ h => cross (t := t) (t' := t') oq op ht hB h
      by_cases hlast : St.hd r = 0
      · rw [if_pos hlast, if_pos hlast]
        have h1 := ih r' hl (1, 0) (1, 0) 0 ok0 ok0 (.inr ⟨rfl, .inl hlast⟩)
        have h2 : ng (nx t B q') ≤ ng (nx t' B p') + k := by
          rcases hge with hge | ⟨hk0, hge⟩
          · unfold ng; split <;> split <;> omega
          · have := (sign_step oq.a op.a (hcr hk0 hge) nq np).2
            unfold ng; split <;> split <;> omega
        omega
      · rw [if_neg hlast, if_neg hlast]
        generalize hn : nx t B q' = n at *
        generalize hm : nx t' B p' = m at *
        have hpn : pos n = if n ≤ 0 then 1 else 0 := rfl
        have hpm : pos m = if m ≤ 0 then 1 else 0 := rfl
        have key : pos n ≤ pos m + k ∧ (pos n = pos m + k → Ge (st n q') (st m p')) := by
          rcases hge with hge | ⟨hk0, hge⟩
          · rw [hpn, hpm]
            refine ⟨by split <;> split <;> omega, fun h => ?_⟩
            have hn0 : n ≤ 0 := by apply Classical.byContradiction; intro h0; rw [if_neg h0] at h; split at h <;> omega
            have hm0 : ¬ m ≤ 0 := by intro h0; rw [if_pos hn0, if_pos h0] at h; omega
            unfold Ge st
            rw [if_pos hn0, if_neg hm0]
            show -p'.1 * -n ≤ q'.1 * m
            have h3 : 0 ≤ q'.1 * m := Int.mul_nonneg oq.a (by omega)
            have h4 : 0 ≤ p'.1 * -n := Int.mul_nonneg op.a (by omega)
            rw [Int.neg_mul]
            omega
          · have hc := hcr hk0 hge
            have hs := (sign_step oq.a op.a hc nq np).1
            rw [hpn, hpm, hk0]
            refine ⟨by split <;> split <;> omega, fun h => ?_⟩
            unfold Ge st
            by_cases hn0 : n ≤ 0
            · rw [if_pos hn0, if_pos (hs hn0)]
              show p'.1 * -n ≤ q'.1 * -m
              rw [Int.mul_neg, Int.mul_neg, Int.mul_comm p'.1, Int.mul_comm q'.1]
              omega
            · have hm0 : ¬ m ≤ 0 := by intro h0; rw [if_neg hn0, if_pos h0] at h; omega
              rw [if_neg hn0, if_neg hm0]
              show -p'.1 * n ≤ -q'.1 * m
              rw [Int.neg_mul, Int.neg_mul, Int.mul_comm p'.1, Int.mul_comm q'.1]
              omega
        obtain ⟨k1, k2⟩ := key
        have h3 := ih r' hl (st n q') (st m p') (pos m + k - pos n) oq2 op2 (by
          by_cases h : pos n = pos m + k
          · exact .inr ⟨by omega, .inr (k2 h)⟩
          · exact .inl (by omega))
        omega
theorem bel_mono' {r r' : List (Int × Int)} (h : Low r r') (h0 : hd r = 0) : bel r (1, 0) ≤ bel r' (1, 0) := by
  have := bel_mono r r' h (1, 0) (1, 0) 0 ok0 ok0 (.inr ⟨rfl, .inl h0⟩)
  omega
/-- None below 0, not more than there are. -/
theorem bel_range : ∀ (r : List (Int × Int)) (q : Int × Int), 0 ≤ bel r q ∧ bel r q ≤ r.length := by
  intro r
  induction r with
  | nil => intro q; simp [bel]
  | cons x r ih =>
    obtain ⟨t, B⟩ := x
    intro q
    rw [bel_cons, List.length_cons]
    generalize hq' : (if B = 0 then ((1, 0) : Int × Int) else q) = q'
    have h1 := ih (1, 0)
    have h2 := ih (st (nx t B q') q')
    unfold ng pos
    split <;> split <;> omega
/-- Where every t is far above what couples, none is below. -/
theorem bel_none (M : Int) (hM : 0 < M) : ∀ (r : List (Int × Int)) (q : Int × Int), (∀ x ∈ r, 3 * M ≤ x.1 ∧ 0 ≤ x.2 ∧ x.2 ≤ M * M) → (hd r = 0 ∨ (0 < q.1 ∧ q.2 ≤ 0 ∧ M * -q.2 ≤ q.1)) → bel r q = 0 := by
  intro r
  induction r with
  | nil => intro q _ _; rfl
  | cons x r ih =>
    obtain ⟨t, B⟩ := x
    intro q hr hq
    have hx := hr (t, B) List.mem_cons_self
    have hr' : ∀ x ∈ r, 3 * M ≤ x.1 ∧ 0 ≤ x.2 ∧ x.2 ≤ M * M := fun x hx => hr x (List.mem_cons_of_mem _ hx)
    obtain ⟨ht, hB0, hB1⟩ : 3 * M ≤ t ∧ 0 ≤ B ∧ B ≤ M * M := hx
    rw [bel_cons]
    generalize hq' : (if B = 0 then ((1, 0) : Int × Int) else q) = q'
    have hq2 : 0 < q'.1 ∧ q'.2 ≤ 0 ∧ M * -q'.2 ≤ q'.1 := by
      rw [← hq']
      by_cases h0 : B = 0
      · rw [if_pos h0]; exact ⟨by decide, by decide, by simp⟩
      · rw [if_neg h0]; exact hq.resolve_left h0
    obtain ⟨q1, q2, q3⟩ := hq2
    have e1 : 3 * M * q'.1 ≤ t * q'.1 := Int.mul_le_mul_of_nonneg_right ht (by omega)
    have e2 : B * -q'.2 ≤ M * M * -q'.2 := Int.mul_le_mul_of_nonneg_right hB1 (by omega)
    have e3 : M * (M * -q'.2) ≤ M * q'.1 := Int.mul_le_mul_of_nonneg_left q3 (by omega)
    rw [← Int.mul_assoc] at e3
    have e4 : 0 < M * q'.1 := Int.mul_pos hM q1
    have hn : 2 * (M * q'.1) ≤ nx t B q' := by
      unfold nx
      rw [Int.mul_neg] at e2
      rw [Int.mul_assoc] at e1
      omega
    have hn0 : 0 < nx t B q' := by omega
    by_cases hl : hd r = 0
    · rw [if_pos hl, ih (1, 0) hr' (.inl hl)]
      unfold ng; rw [if_neg (by omega)]; rfl
    · rw [if_neg hl]
      have e5 : st (nx t B q') q' = (nx t B q', -q'.1) := by unfold st; rw [if_neg (by omega)]
      rw [e5, ih _ hr' (.inr ⟨hn0, by show -q'.1 ≤ 0; omega, by show M * - -q'.1 ≤ nx t B q'; rw [Int.neg_neg]; omega⟩)]
      unfold pos; rw [if_neg (by omega)]; rfl
/-- Where every t is far below, all are below. -/
theorem bel_all (M : Int) (hM : 0 < M) : ∀ (r : List (Int × Int)) (q : Int × Int), (∀ x ∈ r, x.1 ≤ -(3 * M) ∧ 0 ≤ x.2 ∧ x.2 ≤ M * M) → (hd r = 0 ∨ (0 < q.1 ∧ 0 ≤ q.2 ∧ M * q.2 ≤ q.1)) → bel r q = r.length := by
  intro r
  induction r with
  | nil => intro q _ _; rfl
  | cons x r ih =>
    obtain ⟨t, B⟩ := x
    intro q hr hq
    have hx := hr (t, B) List.mem_cons_self
    have hr' : ∀ x ∈ r, x.1 ≤ -(3 * M) ∧ 0 ≤ x.2 ∧ x.2 ≤ M * M := fun x hx => hr x (List.mem_cons_of_mem _ hx)
    obtain ⟨ht, hB0, hB1⟩ : t ≤ -(3 * M) ∧ 0 ≤ B ∧ B ≤ M * M := hx
    rw [bel_cons, List.length_cons]
    generalize hq' : (if B = 0 then ((1, 0) : Int × Int) else q) = q'
    have hq2 : 0 < q'.1 ∧ 0 ≤ q'.2 ∧ M * q'.2 ≤ q'.1 := by
      rw [← hq']
      by_cases h0 : B = 0
      · rw [if_pos h0]; exact ⟨by decide, by decide, by simp⟩
      · rw [if_neg h0]; exact hq.resolve_left h0
    obtain ⟨q1, q2, q3⟩ := hq2
    have e1 : t * q'.1 ≤ -(3 * M) * q'.1 := Int.mul_le_mul_of_nonneg_right ht (by omega)
    have e2 : B * q'.2 ≤ M * M * q'.2 := Int.mul_le_mul_of_nonneg_right hB1 (by omega)
    have e3 : M * (M * q'.2) ≤ M * q'.1 := Int.mul_le_mul_of_nonneg_left q3 (by omega)
    rw [← Int.mul_assoc] at e3
    have e4 : 0 < M * q'.1 := Int.mul_pos hM q1
    have hn : nx t B q' ≤ -(2 * (M * q'.1)) := by
      unfold nx
      rw [Int.neg_mul, Int.mul_assoc] at e1
      omega
    by_cases hl : hd r = 0
    · rw [if_pos hl, ih (1, 0) hr' (.inl hl)]
      unfold ng; rw [if_pos (by omega)]; omega
    · rw [if_neg hl]
      have e5 : st (nx t B q') q' = (-nx t B q', q'.1) := by unfold st; rw [if_pos (by omega)]
      rw [e5, ih _ hr' (.inr ⟨by show 0 < -nx t B q'; omega, by show 0 ≤ q'.1; omega, by show M * q'.1 ≤ -nx t B q'; omega⟩)]
      unfold pos; rw [if_pos (by omega)]; omega

/-! ## Turned end to end -/
/-- Between two states: how many are below, of a row t coupled to both. -/
def mid (u w : Int × Int) (A B C : Int) : Int := if u.1 = 0 ∧ w.1 = 0 then -1 else ng (A * u.1 * w.1 + B * u.2 * w.1 + C * w.2 * u.1)
def dl (u w : Int × Int) (B : Int) : Int := if u.2 < 0 ∧ w.2 < 0 ∧ u.1 * w.1 < B * u.2 * w.2 then 1 else if 0 ≤ u.2 ∧ 0 ≤ w.2 ∧ u.1 * w.1 ≤ B * u.2 * w.2 then -1 else 0
theorem mid_comm (u w : Int × Int) (A B C : Int) : mid u w A B C = mid w u A C B := by
  unfold mid
  have e : A * u.1 * w.1 + B * u.2 * w.1 + C * w.2 * u.1 = A * w.1 * u.1 + C * w.2 * u.1 + B * u.2 * w.1 := by
    rw [Int.mul_assoc, Int.mul_comm u.1 w.1, ← Int.mul_assoc]; omega
  rw [e]
  by_cases h : u.1 = 0 ∧ w.1 = 0
  · rw [if_pos h, if_pos ⟨h.2, h.1⟩]
  · rw [if_neg h, if_neg (fun h' => h ⟨h'.2, h'.1⟩)]
theorem dl_comm (u w : Int × Int) (B : Int) : dl u w B = dl w u B := by
  unfold dl
  rw [Int.mul_comm u.1 w.1, Int.mul_assoc, Int.mul_comm u.2 w.2, ← Int.mul_assoc]
  by_cases h1 : u.2 < 0 <;> by_cases h2 : w.2 < 0 <;> by_cases h3 : 0 ≤ u.2 <;> by_cases h4 : 0 ≤ w.2 <;> simp [h1, h2, h3, h4] <;> omega
theorem mid_step {x y : Int × Int} {A B C : Int} (hx : Ok x) (hy : Ok y) (hB : 0 < B) (hC : 0 < C ∨ 0 < y.1) : mid x y A B C = pos (nx A C y) + dl x (st (nx A C y) y) B := by
  have e : A * x.1 * y.1 + B * x.2 * y.1 + C * y.2 * x.1 = x.1 * nx A C y + B * x.2 * y.1 := by
    unfold nx
    rw [Int.mul_add, ← Int.mul_assoc, Int.mul_comm x.1 A, Int.mul_comm x.1 (C * y.2)]; omega
  have h0 : y.1 = 0 → 0 < nx A C y := fun h => nx_pos hy (by omega) h
  have h1 : y.1 = 0 → nx A C y * x.1 = C * y.2 * x.1 := fun h => by unfold nx; rw [h]; simp
  unfold mid
  rw [e]
  generalize nx A C y = n at *
  have hxa := hx.a
  have hya := hy.a
  by_cases hn : n ≤ 0
  · have hy0 : 0 < y.1 := by
      rcases Int.lt_or_eq_of_le hya with h | h
      · exact h
      · have := h0 h.symm; omega
    rw [if_neg (by omega)]
    have e1 : st n y = (-n, y.1) := by unfold st; rw [if_pos hn]
    have e2 : pos n = 1 := by unfold pos; rw [if_pos hn]
    rw [e1, e2]
    have p1 : x.1 * n ≤ 0 := by have := Int.mul_nonneg hxa (show 0 ≤ -n by omega); rw [Int.mul_neg] at this; omega
    have d0 : dl x (-n, y.1) B = if 0 ≤ x.2 ∧ 0 ≤ y.1 ∧ x.1 * -n ≤ B * x.2 * y.1 then -1 else 0 := by
      unfold dl
      exact if_neg (fun h => by have : y.1 < 0 := h.2.1; omega)
    rw [d0, Int.mul_neg]
    unfold ng
    by_cases hb : 0 ≤ x.2
    · by_cases hc : -(x.1 * n) ≤ B * x.2 * y.1
      · rw [if_neg (show ¬ x.1 * n + B * x.2 * y.1 < 0 by omega), if_pos ⟨hb, by omega, hc⟩]; rfl
      · rw [if_pos (show x.1 * n + B * x.2 * y.1 < 0 by omega), if_neg (fun h => hc h.2.2)]; rfl
    · have p2 : B * x.2 * y.1 < 0 := Int.mul_neg_of_neg_of_pos (Int.mul_neg_of_pos_of_neg hB (by omega)) hy0
      rw [if_pos (show x.1 * n + B * x.2 * y.1 < 0 by omega), if_neg (fun h => hb h.1)]; rfl
  · have e1 : st n y = (n, -y.1) := by unfold st; rw [if_neg hn]
    have e2 : pos n = 0 := by unfold pos; rw [if_neg hn]
    rw [e1, e2]
    have p1 : 0 ≤ x.1 * n := Int.mul_nonneg hxa (by omega)
    have d0 : dl x (n, -y.1) B = if x.2 < 0 ∧ -y.1 < 0 ∧ x.1 * n < B * x.2 * -y.1 then 1 else if 0 ≤ x.2 ∧ 0 ≤ -y.1 ∧ x.1 * n ≤ B * x.2 * -y.1 then -1 else 0 := rfl
    rw [d0]
    unfold ng
    rcases Int.lt_or_eq_of_le hya with hy0 | hy0
    · rw [if_neg (show ¬ (x.1 = 0 ∧ y.1 = 0) by omega), Int.mul_neg]
      have d1 : (if 0 ≤ x.2 ∧ 0 ≤ -y.1 ∧ x.1 * n ≤ -(B * x.2 * y.1) then (-1 : Int) else 0) = 0 := if_neg (fun h => by have := h.2.1; omega)
      rw [d1]
      by_cases hb : x.2 < 0
      · by_cases hc : x.1 * n + B * x.2 * y.1 < 0
        · rw [if_pos hc, if_pos ⟨hb, by omega, by omega⟩]; rfl
        · rw [if_neg hc, if_neg (fun h => hc (by have := h.2.2; omega))]; rfl
      · have p2 : 0 ≤ B * x.2 * y.1 := Int.mul_nonneg (Int.mul_nonneg (by omega) (by omega)) hya
        rw [if_neg (show ¬ x.1 * n + B * x.2 * y.1 < 0 by omega), if_neg (fun h => hb h.1)]; rfl
    · rw [← hy0]
      simp only [Int.mul_zero, Int.neg_zero, Int.add_zero]
      have d1 : (if x.2 < 0 ∧ (0 : Int) < 0 ∧ x.1 * n < 0 then (1 : Int) else if 0 ≤ x.2 ∧ (0 : Int) ≤ 0 ∧ x.1 * n ≤ 0 then -1 else 0) = if 0 ≤ x.2 ∧ (0 : Int) ≤ 0 ∧ x.1 * n ≤ 0 then -1 else 0 := if_neg (fun h => by have := h.2.1; omega)
      rw [d1]
      rcases Int.lt_or_eq_of_le hxa with hx0 | hx0
      · have p3 : 0 < x.1 * n := Int.mul_pos hx0 (by omega)
        rw [if_neg (show ¬ (x.1 = 0 ∧ True) by omega), if_neg (show ¬ x.1 * n < 0 by omega), if_neg (fun h => by have := h.2.2; omega)]; rfl
      · have hb := hx.b hx0.symm
        rw [if_pos ⟨hx0.symm, trivial⟩, if_pos ⟨by omega, by omega, by rw [← hx0]; simp⟩]; rfl
/-- Rows coupled all: the state from below. -/
def bot : List (Int × Int) → Int × Int
  | [] => (1, 0)
  | (t, _) :: r => st (nx t (hd r) (bot r)) (bot r)
def botc : List (Int × Int) → Int
  | [] => 0
  | (t, _) :: r => pos (nx t (hd r) (bot r)) + botc r
def All : List (Int × Int) → Prop := fun r => ∀ x ∈ r, 0 < x.2
theorem All.hd {x : Int × Int} {r : List (Int × Int)} (h : All (x :: r)) : 0 < St.hd (x :: r) := h x List.mem_cons_self
theorem All.tl {x : Int × Int} {r : List (Int × Int)} (h : All (x :: r)) : All r := fun y hy => h y (List.mem_cons_of_mem _ hy)
theorem bot_ok : ∀ r : List (Int × Int), All r → Ok (bot r) := by
  intro r
  induction r with
  | nil => intro _; exact ok0
  | cons x r ih =>
    obtain ⟨t, B⟩ := x
    intro h
    refine Ok.st (ih h.tl) ?_
    cases r with
    | nil => right; decide
    | cons y r => left; exact h.tl.hd
theorem bel_mid : ∀ (r : List (Int × Int)), All r → ∀ (t B : Int) (u : Int × Int), Ok u → (0 < B ∨ 0 < u.1) → (B = 0 → u = (1, 0)) → bel ((t, B) :: r) u = botc r + mid u (bot r) t B (hd r) := by
  intro r
  induction r with
  | nil =>
    intro _ t B u hu hB hB0
    have e : (if B = 0 then ((1, 0) : Int × Int) else u) = u := by split; exact (hB0 ‹_›).symm; rfl
    rw [bel_cons, e, if_pos (show hd [] = 0 from rfl)]
    unfold mid bot botc hd
    rw [if_neg (by simp), show bel [] (1, 0) = 0 from rfl]
    unfold nx
    simp
  | cons x r ih =>
    obtain ⟨t', B'⟩ := x
    intro h t B u hu hB hB0
    have hB' : 0 < B' := h.hd
    have e : (if B = 0 then ((1, 0) : Int × Int) else u) = u := by split; exact (hB0 ‹_›).symm; rfl
    have hh : hd ((t', B') :: r) = B' := rfl
    rw [bel_cons, e, hh, if_neg (by omega), ih h.tl t' B' _ (Ok.st hu hB) (.inl hB') (fun h => by omega)]
    have hC : 0 < hd r ∨ 0 < (bot r).1 := by
      cases r with
      | nil => right; decide
      | cons y r => left; exact h.tl.hd
    have ob := bot_ok r h.tl
    have m1 := mid_step (x := st (nx t B u) u) (y := bot r) (A := t') (B := B') (C := hd r) (Ok.st hu hB) ob hB' hC
    have m2 := mid_step (x := bot ((t', B') :: r)) (y := u) (A := t) (B := B') (C := B) (bot_ok _ h) hu hB' hB
    rw [m1, mid_comm, m2]
    have e1 : bot ((t', B') :: r) = st (nx t' (hd r) (bot r)) (bot r) := rfl
    have e2 : botc ((t', B') :: r) = pos (nx t' (hd r) (bot r)) + botc r := rfl
    rw [e1, e2, dl_comm]
    omega
/-- A chain turned end to end. -/
def rev : List (Int × Int) → List (Int × Int)
  | [] => []
  | (t, _) :: r => rev r ++ [(t, hd r)]
theorem rev_cons (t B : Int) (r : List (Int × Int)) : rev ((t, B) :: r) = rev r ++ [(t, hd r)] := rfl
theorem hd_rev : ∀ a : List (Int × Int), hd (rev a) = 0 := by
  intro a
  induction a with
  | nil => rfl
  | cons x r ih =>
    obtain ⟨t, B⟩ := x
    rw [rev_cons]
    cases r with
    | nil => rfl
    | cons y r =>
      have : rev (y :: r) ≠ [] := by obtain ⟨t', B'⟩ := y; rw [rev_cons]; simp
      rw [hd_app this]; exact ih
theorem rev_app (z : List (Int × Int)) (hz : hd z = 0) : ∀ a : List (Int × Int), rev (a ++ z) = rev z ++ rev a := by
  intro a
  induction a with
  | nil => simp [rev]
  | cons x r ih =>
    obtain ⟨t, B⟩ := x
    have e : hd (r ++ z) = hd r := by
      cases r with
      | nil => exact hz
      | cons y r => rfl
    rw [List.cons_append, rev_cons, rev_cons, ih, e, List.append_assoc]
theorem bel_rev_s : ∀ R : List (Int × Int), All R → ∀ s : List (Int × Int), (R ≠ [] → hd s ≠ 0) → bel (rev R ++ s) (1, 0) = botc R + bel s (bot R) := by
  intro R
  induction R with
  | nil => intro _ s _; simp [rev, botc, bot]
  | cons x r ih =>
    obtain ⟨t, B⟩ := x
    intro h s hs
    rw [rev_cons, List.append_assoc, List.singleton_append, ih h.tl ((t, hd r) :: s) (fun h0 => by
      cases r with
      | nil => exact absurd rfl h0
      | cons y r => have := h.tl.hd; show hd (y :: r) ≠ 0; omega), bel_cons, if_neg (hs (by simp))]
    have e : (if hd r = 0 then ((1, 0) : Int × Int) else bot r) = bot r := by
      cases r with
      | nil => rfl
      | cons y r => rw [if_neg (by have := h.tl.hd; omega)]
    rw [e]
    show _ = pos (nx t (hd r) (bot r)) + botc r + bel s (st (nx t (hd r) (bot r)) (bot r))
    omega
theorem bel_rev1 (t : Int) (R : List (Int × Int)) (h : All R) : bel (rev ((t, 0) :: R)) (1, 0) = bel ((t, 0) :: R) (1, 0) := by
  rw [rev_cons, bel_rev_s R h _ (fun h0 => by
    cases R with
    | nil => exact absurd rfl h0
    | cons y r => have := h.hd; show hd (y :: r) ≠ 0; omega), bel_mid R h t 0 (1, 0) ok0 (.inr (by decide)) (fun _ => rfl)]
  have e : (if hd R = 0 then ((1, 0) : Int × Int) else bot R) = bot R := by
    cases R with
    | nil => rfl
    | cons y r => rw [if_neg (by have := h.hd; omega)]
  rw [bel_cons, e, if_pos (show hd [] = 0 from rfl)]
  unfold mid
  rw [if_neg (by simp)]
  unfold nx
  simp [bel]
theorem part_at : ∀ r : List (Int × Int), (∀ x ∈ r, 0 ≤ x.2) → ∃ R z, r = R ++ z ∧ All R ∧ hd z = 0 := by
  intro r
  induction r with
  | nil => intro _; exact ⟨[], [], rfl, fun x hx => (by cases hx), rfl⟩
  | cons x r ih =>
    intro h
    obtain ⟨t, B⟩ := x
    by_cases h0 : B = 0
    · exact ⟨[], (t, B) :: r, rfl, fun x hx => (by cases hx), h0⟩
    · obtain ⟨R, z, rfl, h1, h2⟩ := ih (fun x hx => h x (List.mem_cons_of_mem _ hx))
      refine ⟨(t, B) :: R, z, rfl, fun x hx => ?_, h2⟩
      rcases List.mem_cons.1 hx with rfl | hx
      · have := h (t, B) List.mem_cons_self
        show 0 < B
        have : 0 ≤ B := this
        omega
      · exact h1 x hx
theorem bel_rev (n : Nat) : ∀ l : List (Int × Int), l.length ≤ n → hd l = 0 → (∀ x ∈ l, 0 ≤ x.2) → bel (rev l) (1, 0) = bel l (1, 0) := by
  induction n with
  | zero =>
    intro l hl _ _
    have e : l = [] := List.eq_nil_of_length_eq_zero (by omega)
    rw [e]; rfl
  | succ n ih =>
    intro l hl h0 hp
    cases l with
    | nil => rfl
    | cons x r =>
      obtain ⟨t, B⟩ := x
      have h0 : B = 0 := h0
      subst h0
      obtain ⟨R, z, rfl, h1, h2⟩ := part_at r (fun x hx => hp x (List.mem_cons_of_mem _ hx))
      rw [← List.cons_append, bel_app z h2, rev_app z h2, bel_app _ (hd_rev _), bel_rev1 t R h1,
        ih z (by rw [List.length_cons, List.length_append] at hl; omega) h2 (fun x hx => hp x (List.mem_cons_of_mem _ (List.mem_append_right _ hx)))]
      omega
end St

