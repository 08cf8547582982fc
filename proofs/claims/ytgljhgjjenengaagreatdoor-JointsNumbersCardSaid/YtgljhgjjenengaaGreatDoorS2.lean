/- Plain laws: numbers of few digits are words; products by powers of two; a word's digits replaced. No program. -/
import Derived.Test.YtgljhgjjenengaaGreatDoorS1
namespace GFl
open Ieee

/-- 2 to the power n, not to be worked out. -/
def p2 (n : Nat) : Nat := 2 ^ n
theorem p2_def (n : Nat) : p2 n = 2 ^ n := rfl
theorem p2_pos (n : Nat) : 0 < p2 n := Nat.two_pow_pos n
theorem p2_add (a b : Nat) : p2 (a + b) = p2 a * p2 b := Nat.pow_add ..
theorem p2_le {a b : Nat} (h : a ≤ b) : p2 a ≤ p2 b := Nat.pow_le_pow_right (by decide) h
theorem p2_zero : p2 0 = 1 := rfl
attribute [irreducible] p2
theorem p2_split {a b : Nat} (h : b ≤ a) : p2 a = p2 (a - b) * p2 b := by rw [← p2_add]; congr 1; omega

/-- A number of at most as many digits as a word bears has a rung. -/
theorem rep {B : Nat} (q k : Nat) (hq : q < 2 * B) : ∃ r, mg B r = q * p2 k := by
  simp only [p2_def]
  induction k generalizing q with
  | zero =>
    refine ⟨q, ?_⟩
    by_cases h : q < B
    · rw [mg_small h]; simp
    · have e : q = (0 + 1) * B + (q - B) := by omega
      have := mg_eq B 0 (q - B) (by omega)
      rw [← e] at this
      rw [this]; simp; omega
  | succ k ih =>
    by_cases h : q < B
    · obtain ⟨r, hr⟩ := ih (q * 2) (by omega)
      exact ⟨r, by rw [hr, Nat.pow_succ, Nat.mul_assoc, Nat.mul_comm 2]⟩
    · refine ⟨(k + 1 + 1) * B + (q - B), ?_⟩
      rw [mg_eq B (k + 1) (q - B) (by omega)]
      congr 1; omega

theorem rn_exact {B N D r q : Nat} (hB : 0 < B) (hD : 0 < D) (h : IsRn B N D r) (e : N = mg B q * D) : r = q := by
  subst e
  exact h.unique hB hD (IsRn.exact hB hD)

theorem rn_le {B N D r q : Nat} (hB : 0 < B) (hD : 0 < D) (h : IsRn B N D r) (e : N ≤ mg B q * D) : r ≤ q :=
  h.mono hB hD hD (IsRn.exact hB hD) (Nat.mul_le_mul_right _ e)
theorem rn_ge {B N D r q : Nat} (hB : 0 < B) (hD : 0 < D) (h : IsRn B N D r) (e : mg B q * D ≤ N) : q ≤ r :=
  (IsRn.exact hB hD).mono hB hD hD h (Nat.mul_le_mul_right _ e)

/-- The product of two finite float64s. -/
theorem mul64 {x y : Nat} (hx : W64 x) (hy : W64 y) (hx1 : rg x < 9218868437227405312) (hy1 : rg y < 9218868437227405312) :
    ∃ r, IsRn 4503599627370496 (mg 4503599627370496 (rg x) * mg 4503599627370496 (rg y)) (p2 1074) r ∧ double.mul x y = some (wd (neg x ^^ neg y) (min r 9218868437227405312)) := by
  have h := mul_fin good_double hx hy (by rw [d_inf]; exact hx1) (by rw [d_inf]; exact hy1) (by decide)
  have e : (-double.leastPlace).toNat = 1074 := by decide
  rw [d_b, ← p2_def, e, d_inf] at h
  exact h
/-- The sum of two finite float64s. -/
theorem add64 {x y : Nat} (hx : W64 x) (hy : W64 y) (hx1 : rg x < 9218868437227405312) (hy1 : rg y < 9218868437227405312) :
    ∃ r, IsRn 4503599627370496 (val x + val y).natAbs 1 r ∧
      double.add x y = some (wd (if val x + val y = 0 then neg x && neg y else decide (val x + val y < 0)) (min r 9218868437227405312)) := by
  have h := add_fin good_double hx hy (by rw [d_inf]; exact hx1) (by rw [d_inf]; exact hy1)
  rw [d_b, d_inf] at h
  exact h
theorem val_eq' (x : Nat) : val x = if neg x then -(mg 4503599627370496 (rg x) : Int) else (mg 4503599627370496 (rg x) : Int) := by rw [val_eq, d_b]

abbrev B52 : Nat := 4503599627370496
theorem B52_pos : 0 < B52 := by decide
theorem mg_B (E t : Nat) (hE : 1 ≤ E) (ht : t < B52) : mg B52 (E * B52 + t) = (B52 + t) * p2 (E - 1) := by
  obtain ⟨s, rfl⟩ : ∃ s, E = s + 1 := ⟨E - 1, by omega⟩
  rw [p2_def]
  exact mg_eq B52 s t ht
theorem mg_norm {r : Nat} (h : B52 ≤ r) : mg B52 r = (B52 + r % B52) * p2 (r / B52 - 1) := by
  have := mg_B (r / B52) (r % B52) ((Nat.one_le_div_iff B52_pos).2 h) (Nat.mod_lt _ B52_pos)
  rwa [Nat.mul_comm (r / B52), Nat.div_add_mod] at this

/-- What normalizing comes to: y is x times 2^-e. -/
structure Normd (x y : Nat) (e : Int) : Prop where
  w : W64 y
  s : neg y = neg x
  lo : B52 ≤ rg y
  hi : rg y < 9218868437227405312
  e : (e = 0 ∧ y = x) ∨ (e = -52 ∧ mg B52 (rg y) = mg B52 (rg x) * p2 52)

theorem Normd.k1 {x y : Nat} {e : Int} (h : Normd x y e) : -52 ≤ e := by rcases h.e with ⟨rfl, _⟩ | ⟨rfl, _⟩ <;> omega
theorem Normd.k2 {x y : Nat} {e : Int} (h : Normd x y e) : e ≤ 0 := by rcases h.e with ⟨rfl, _⟩ | ⟨rfl, _⟩ <;> omega
theorem Normd.E {x y : Nat} {e : Int} (h : Normd x y e) : rg y / B52 < 2047 := Nat.div_lt_of_lt_mul (by have := h.hi; unfold B52; omega)
theorem c52_rg : rg 4841369599423283200 = 4841369599423283200 := by decide
theorem c52_mg : mg B52 (rg 4841369599423283200) = p2 52 * p2 1074 := by
  rw [c52_rg, mg_norm (by decide), ← p2_add]
  decide +kernel
theorem c52_neg : neg 4841369599423283200 = false := by decide
theorem mg52 : mg B52 B52 = B52 := by decide
theorem mgINF : mg B52 9218868437227405312 = B52 * p2 2046 := by
  rw [mg_norm (by decide)]; congr 1
theorem normd_mul {x : Nat} (hx : W64 x) (h0 : 0 < rg x) (h1 : rg x < B52) : ∃ y, double.mul x 4841369599423283200 = some y ∧ Normd x y (-52) := by
  obtain ⟨r, hr, e⟩ := mul64 hx (w_const (by decide : decide (4841369599423283200 < 18446744073709551616) = true)) (by unfold B52 at h1; omega) (by decide)
  obtain ⟨q, hq⟩ := rep (B := B52) (rg x) 52 (by unfold B52 at *; omega)
  have hrq : r = q := rn_exact B52_pos (p2_pos 1074) hr (by rw [c52_mg, ← Nat.mul_assoc, mg_small h1, ← hq])
  subst hrq
  have h52 : p2 52 = B52 := by decide +kernel
  have hlo : B52 ≤ r := by
    rw [← mg_le_iff (B := B52) B52_pos, hq, mg52, h52]
    exact Nat.le_mul_of_pos_left _ h0
  have hhi : r < 9218868437227405312 := by
    rw [← mg_lt_iff (B := B52) B52_pos, hq, mgINF, h52, Nat.mul_comm B52]
    refine Nat.mul_lt_mul_of_pos_right ?_ B52_pos
    exact Nat.lt_of_lt_of_le h1 (Nat.le_trans (Nat.le_of_eq h52.symm) (p2_le (by decide)))
  rw [c52_neg, Bool.xor_false, Nat.min_eq_left (Nat.le_of_lt hhi)] at e
  have hr63 : r < 9223372036854775808 := by omega
  refine ⟨_, e, wd_w hr63, wd_neg hr63, by rw [wd_rg hr63]; exact hlo, by rw [wd_rg hr63]; exact hhi, .inr ⟨rfl, ?_⟩⟩
  rw [wd_rg hr63, hq, mg_small h1]
theorem normd_id {x : Nat} (hx : W64 x) (h0 : B52 ≤ rg x) (h1 : rg x < 9218868437227405312) : Normd x x 0 := ⟨hx, rfl, h0, h1, .inl ⟨rfl, rfl⟩⟩

/-- What ldexp comes to: the nearest of x times 2^e. -/
theorem ldexp_val {x y : Nat} {e1 e : Int} (h : Normd x y e1) (X : Int) (hX : X = e + e1 + (rg y / B52 : Nat) - 1023) :
    ∃ c d, 0 < c ∧ 0 < d ∧ mg B52 (rg x) * p2 e.toNat * c = (B52 + rg y % B52) * p2 (X + 1022).toNat * d ∧ p2 (-e).toNat * c = p2 (-(X + 1022)).toNat * d := by
  have hE : 1 ≤ rg y / B52 := (Nat.one_le_div_iff B52_pos).2 h.lo
  have hm := mg_norm h.lo
  generalize rg y / B52 = E at *
  generalize B52 + rg y % B52 = m at *
  rcases h.e with ⟨rfl, rfl⟩ | ⟨rfl, h2⟩
  · rw [hm]
    refine ⟨p2 (-(X + 1022)).toNat, p2 (-e).toNat, p2_pos _, p2_pos _, ?_, Nat.mul_comm ..⟩
    simp only [Nat.mul_assoc, ← p2_add]
    congr 2; omega
  · rw [hm] at h2
    refine ⟨p2 52 * p2 (-(X + 1022)).toNat, p2 52 * p2 (-e).toNat, Nat.mul_pos (p2_pos _) (p2_pos _), Nat.mul_pos (p2_pos _) (p2_pos _), ?_, by ac_rfl⟩
    have e3 : mg B52 (rg x) * p2 e.toNat * (p2 52 * p2 (-(X + 1022)).toNat) = mg B52 (rg x) * p2 52 * p2 (e.toNat + (-(X + 1022)).toNat) := by
      rw [p2_add, Nat.mul_assoc, Nat.mul_assoc, Nat.mul_left_comm (p2 e.toNat)]
    rw [e3, ← h2]
    simp only [Nat.mul_assoc, ← p2_add]
    congr 2; omega

/-- The nearest word of x times 2^e, by its rung. -/
def IsLd (x : Nat) (e : Int) (z : Nat) : Prop := ∃ r, IsRn B52 (mg B52 (rg x) * p2 e.toNat) (p2 (-e).toNat) r ∧ z = wd (neg x) (min r 9218868437227405312)

theorem isLd_of {x y : Nat} {e1 e : Int} (h : Normd x y e1) (X : Int) (hX : X = e + e1 + (rg y / B52 : Nat) - 1023) {r z : Nat}
    (hr : IsRn B52 ((B52 + rg y % B52) * p2 (X + 1022).toNat) (p2 (-(X + 1022)).toNat) r) (hz : z = wd (neg x) (min r 9218868437227405312)) : IsLd x e z := by
  obtain ⟨c, d, hc, hd, h1, h2⟩ := ldexp_val h X hX
  refine ⟨r, ?_, hz⟩
  have := (IsRn.scale (B := B52) (r := r) hd).2 hr
  rw [← h1, ← h2] at this
  exact (IsRn.scale hc).1 this

theorem isLd_over {x y : Nat} {e1 e : Int} (h : Normd x y e1) (X : Int) (hX : X = e + e1 + (rg y / B52 : Nat) - 1023) (hb : 1023 < X) : IsLd x e (wd (neg x) 9218868437227405312) := by
  obtain ⟨q, hq⟩ := rep (B := B52) (B52 + rg y % B52) (X + 1022).toNat (by have := Nat.mod_lt (rg y) B52_pos; omega)
  refine isLd_of h X hX (r := q) ?_ ?_
  · have e0 : (-(X + 1022)).toNat = 0 := by omega
    rw [e0, p2_zero]
    have := IsRn.exact (B := B52) (r := q) B52_pos Nat.one_pos
    rwa [hq, Nat.mul_one] at this
  · rw [Nat.min_eq_right]
    rw [← mg_le_iff (B := B52) B52_pos, hq, mgINF]
    exact Nat.mul_le_mul (by omega) (p2_le (by omega))

theorem isLd_norm {x y : Nat} {e1 e : Int} (h : Normd x y e1) (X : Int) (hX : X = e + e1 + (rg y / B52 : Nat) - 1023) (ha : -1022 ≤ X) (hb : X ≤ 1023) : IsLd x e (wd (neg x) ((X + 1023).toNat * B52 + rg y % B52)) := by
  have ht := Nat.mod_lt (rg y) B52_pos
  have hm := mg_B (X + 1023).toNat (rg y % B52) (by omega) ht
  refine isLd_of h X hX (r := (X + 1023).toNat * B52 + rg y % B52) ?_ ?_
  · have e0 : (-(X + 1022)).toNat = 0 := by omega
    rw [e0, p2_zero]
    have := IsRn.exact (B := B52) (r := (X + 1023).toNat * B52 + rg y % B52) B52_pos Nat.one_pos
    rw [hm, Nat.mul_one] at this
    have e2 : (X + 1023).toNat - 1 = (X + 1022).toNat := by omega
    rwa [e2] at this
  · congr 1
    rw [Nat.min_eq_left]
    unfold B52 at *
    omega

theorem isLd_under {x y : Nat} {e1 e : Int} (h : Normd x y e1) (X : Int) (hX : X = e + e1 + (rg y / B52 : Nat) - 1023) (ha : X < -1075) : IsLd x e (wd (neg x) 0) := by
  have ht := Nat.mod_lt (rg y) B52_pos
  refine isLd_of h X hX (r := 0) ?_ (by simp)
  have e0 : (X + 1022).toNat = 0 := by omega
  rw [e0, p2_zero, Nat.mul_one]
  have hp : p2 54 ≤ p2 (-(X + 1022)).toNat := p2_le (by omega)
  have h54 : p2 54 = 4 * B52 := by decide +kernel
  have m0 : mg B52 0 = 0 := by decide
  have m1 : mg B52 (0 + 1) = 1 := by decide
  refine ⟨?_, ?_, ?_, ?_⟩
  · rw [m0, m1]; omega
  · rw [m0, m1]; intro _; rfl
  · intro q hq; omega
  · intro q hq; omega

theorem one_rg : rg 4607182418800017408 = 4607182418800017408 := by decide
theorem one_mg : mg B52 (rg 4607182418800017408) = p2 1074 := by rw [one_rg]; decide +kernel
theorem one_neg : neg 4607182418800017408 = false := by decide
theorem m53_rg : rg 4368491638549381120 = 4368491638549381120 := by decide
theorem m53_mg : mg B52 (rg 4368491638549381120) = p2 1021 := by rw [m53_rg]; decide +kernel
theorem m53_neg : neg 4368491638549381120 = false := by decide

theorem mul_one64 {x : Nat} (hx : W64 x) (h : rg x < 9218868437227405312) : double.mul 4607182418800017408 x = some x := by
  obtain ⟨r, hr, e⟩ := mul64 (w_const (by decide : decide (4607182418800017408 < 18446744073709551616) = true)) hx (by decide) h
  rw [one_mg, Nat.mul_comm] at hr
  have hrq := rn_exact B52_pos (p2_pos 1074) hr rfl
  rw [hrq, one_neg, Bool.false_xor, Nat.min_eq_left (Nat.le_of_lt h), ← w64_wd hx] at e
  exact e

theorem isLd_sub {x y : Nat} {e1 e : Int} (h : Normd x y e1) (X : Int) (hX : X = e + e1 + (rg y / B52 : Nat) - 1023) (ha : -1075 ≤ X) (hb : X < -1022) :
    ∃ z, double.mul 4368491638549381120 (wd (neg x) ((X + 53 + 1023).toNat * B52 + rg y % B52)) = some z ∧ IsLd x e z := by
  have ht := Nat.mod_lt (rg y) B52_pos
  have hR : (X + 53 + 1023).toNat * B52 + rg y % B52 < 9218868437227405312 := by unfold B52 at *; omega
  have hR63 : (X + 53 + 1023).toNat * B52 + rg y % B52 < 9223372036854775808 := by omega
  have hm := mg_B (X + 53 + 1023).toNat (rg y % B52) (by omega) ht
  obtain ⟨r, hr, e2⟩ := mul64 (w_const (by decide : decide (4368491638549381120 < 18446744073709551616) = true)) (wd_w (s := neg x) hR63) (by decide) (by rw [wd_rg hR63]; exact hR)
  rw [wd_neg hR63, m53_neg, Bool.false_xor] at e2
  rw [m53_mg, wd_rg hR63, hm] at hr
  refine ⟨_, e2, isLd_of h X hX (r := r) (hr.cross (p2_pos _) (p2_pos _) ?_) rfl⟩
  have e0 : (X + 1022).toNat = 0 := by omega
  rw [e0, p2_zero, Nat.mul_one]
  generalize B52 + rg y % B52 = m
  have e5 : p2 1021 * (m * p2 ((X + 53 + 1023).toNat - 1)) * p2 (-(X + 1022)).toNat = m * (p2 1021 * p2 ((X + 53 + 1023).toNat - 1) * p2 (-(X + 1022)).toNat) := by ac_rfl
  rw [e5, ← p2_add, ← p2_add]
  congr 2; omega

/-- The whole number that a float is. -/
theorem toInt_whole {z m : Nat} (hz : W64 z) (hf : rg z < 9218868437227405312) (hn : neg z = false) (hm : mg B52 (rg z) = m * p2 1074) : (double.read z).toInt .zero = some (m : Int) := by
  obtain ⟨q, e, h1, h2, h3, _, _⟩ := read_num (f := double) hz (by rw [d_inf]; exact hf)
  have hs : sgn double z = false := hn
  rw [h1, hs]
  rw [d_l] at h2 h3
  rw [d_b] at h3
  have h3 : q * p2 (e + 1074).toNat = m * p2 1074 := by
    rw [p2_def]
    have e1 : e + 1074 = e - -1074 := by omega
    rw [e1, h3]
    exact hm
  simp only [Datum.toInt, Datum.integral, signed, Bool.false_eq_true, if_false]
  congr 2
  simp only [Nat.shiftLeft_zero]
  unfold Toward.cut
  simp only [Bool.toNat_false, Nat.add_zero, Nat.shiftLeft_eq, Nat.one_mul]
  by_cases he : 0 ≤ e
  · have e0 : (-e).toNat = 0 := by omega
    rw [e0, Nat.zero_min, Nat.pow_zero, Nat.div_one]
    have e2 : p2 (e + 1074).toNat = p2 e.toNat * p2 1074 := by rw [← p2_add]; congr 1; omega
    rw [e2, ← Nat.mul_assoc] at h3
    rw [← p2_def]
    exact Nat.eq_of_mul_eq_mul_right (p2_pos _) h3
  · have e0 : e.toNat = 0 := by omega
    rw [e0, Nat.pow_zero, Nat.mul_one]
    have e2 : p2 1074 = p2 (-e).toNat * p2 (e + 1074).toNat := by rw [← p2_add]; congr 1; omega
    rw [e2, ← Nat.mul_assoc] at h3
    have h4 := Nat.eq_of_mul_eq_mul_right (p2_pos _) h3
    rw [p2_def] at h4
    by_cases hm0 : m = 0
    · subst hm0; rw [h4]; simp
    · have hle : 2 ^ (-e).toNat ≤ q := by rw [h4]; exact Nat.le_mul_of_pos_left _ (by omega)
      have hq0 : q ≠ 0 := by have := Nat.two_pow_pos (-e).toNat; omega
      have hlog : (-e).toNat ≤ q.log2 := (Nat.le_log2 hq0).2 hle
      rw [Nat.min_eq_left (by omega), h4]
      exact Nat.mul_div_cancel _ (Nat.two_pow_pos _)

/-- The parts of a float that is not nought. -/
structure IsSplit (x fr : Nat) (ex : Int) : Prop where
  odd : fr % 2 = 1
  lo : -1074 ≤ ex
  eq : fr * p2 (ex + 1074).toNat = mg B52 (rg x)

theorem odd_unique {a b i j : Nat} (ha : a % 2 = 1) (hb : b % 2 = 1) (h : a * p2 i = b * p2 j) : a = b ∧ i = j := by
  rcases Nat.lt_trichotomy i j with hij | hij | hij
  · exfalso
    rw [p2_split (Nat.le_of_lt hij), ← Nat.mul_assoc] at h
    have h1 := Nat.eq_of_mul_eq_mul_right (p2_pos i) h
    obtain ⟨k, hk⟩ : ∃ k, j - i = k + 1 := ⟨j - i - 1, by omega⟩
    rw [hk, p2_def, Nat.pow_succ] at h1
    have : (b * (2 ^ k * 2)) % 2 = 0 := by rw [← Nat.mul_assoc]; omega
    omega
  · subst hij
    exact ⟨Nat.eq_of_mul_eq_mul_right (p2_pos _) h, rfl⟩
  · exfalso
    rw [p2_split (Nat.le_of_lt hij), ← Nat.mul_assoc] at h
    have h1 := Nat.eq_of_mul_eq_mul_right (p2_pos j) h
    obtain ⟨k, hk⟩ : ∃ k, i - j = k + 1 := ⟨i - j - 1, by omega⟩
    rw [hk, p2_def, Nat.pow_succ] at h1
    have : (a * (2 ^ k * 2)) % 2 = 0 := by rw [← Nat.mul_assoc]; omega
    omega

theorem IsSplit.unique {x a b : Nat} {i j : Int} (h : IsSplit x a i) (h' : IsSplit x b j) : a = b ∧ i = j := by
  have := odd_unique h.odd h'.odd (h.eq.trans h'.eq.symm)
  have := h.lo
  have := h'.lo
  omega

/-- The fraction of a float, times 2^53. -/
theorem split_m {t z : Nat} (ht : t < B52) (h : IsLd (wd false (1022 * B52 + t)) 53 z) : W64 z ∧ rg z < 9218868437227405312 ∧ neg z = false ∧ mg B52 (rg z) = (B52 + t) * p2 1074 := by
  have hR : 1022 * B52 + t < 9223372036854775808 := by unfold B52 at *; omega
  obtain ⟨r, hr, e⟩ := h
  rw [wd_rg hR, mg_B 1022 t (by decide) ht] at hr
  obtain ⟨q, hq⟩ := rep (B := B52) (B52 + t) 1074 (by omega)
  have e1 : (B52 + t) * p2 (1022 - 1) * p2 (53 : Int).toNat = mg B52 q * p2 (-53 : Int).toNat := by
    rw [hq, Nat.mul_assoc, ← p2_add, show (-53 : Int).toNat = 0 from rfl, p2_zero, Nat.mul_one]
    rfl
  have hrq := rn_exact B52_pos (p2_pos _) hr e1
  have hhi : q < 9218868437227405312 := by
    rw [← mg_lt_iff (B := B52) B52_pos, hq, mgINF]
    have h2 : p2 2046 = p2 972 * p2 1074 := by rw [← p2_add]
    have h3 : p2 1 ≤ p2 972 := p2_le (by decide)
    have h4 : p2 1 = 2 := by decide +kernel
    rw [h2, ← Nat.mul_assoc]
    refine Nat.mul_lt_mul_of_pos_right ?_ (p2_pos _)
    have : B52 * 2 ≤ B52 * p2 972 := Nat.mul_le_mul_left _ (by omega)
    omega
  have hq63 : q < 9223372036854775808 := by omega
  rw [hrq, wd_neg hR, Nat.min_eq_left (Nat.le_of_lt hhi)] at e
  rw [e]
  exact ⟨wd_w hq63, by rw [wd_rg hq63]; exact hhi, wd_neg hq63, by rw [wd_rg hq63]; exact hq⟩

theorem p2_odd_le {a b m M : Nat} (hm : m % 2 = 1) (h : m * p2 a = M * p2 b) : b ≤ a := by
  rcases Nat.lt_or_ge a b with hab | hab
  · exfalso
    rw [p2_split (Nat.le_of_lt hab), ← Nat.mul_assoc] at h
    have h1 := Nat.eq_of_mul_eq_mul_right (p2_pos a) h
    obtain ⟨k, hk⟩ : ∃ k, b - a = k + 1 := ⟨b - a - 1, by omega⟩
    rw [hk, p2_def, Nat.pow_succ] at h1
    have : (M * (2 ^ k * 2)) % 2 = 0 := by rw [← Nat.mul_assoc]; omega
    omega
  · exact hab

theorem split_ok {x y : Nat} {k : Int} {n j : Nat} (h : Normd x y k) (hm : B52 + rg y % B52 = p2 n * (2 * j + 1)) : IsSplit x (2 * j + 1) (k + (rg y / B52 : Nat) - 1022 - 53 + n) := by
  have hE : 1 ≤ rg y / B52 := (Nat.one_le_div_iff B52_pos).2 h.lo
  have hy := mg_norm h.lo
  rw [hm] at hy
  generalize rg y / B52 = E at *
  have key : (2 * j + 1) * p2 (n + (E - 1)) = mg B52 (rg x) * p2 (-k).toNat := by
    rw [p2_add]
    have e1 : (2 * j + 1) * (p2 n * p2 (E - 1)) = p2 n * (2 * j + 1) * p2 (E - 1) := by ac_rfl
    rw [e1, ← hy]
    rcases h.e with ⟨rfl, rfl⟩ | ⟨rfl, h2⟩
    · rw [show (-(0 : Int)).toNat = 0 from rfl, p2_zero, Nat.mul_one]
    · exact h2
  have hge := p2_odd_le (by omega) key
  have hk := h.k1
  have hk2 := h.k2
  refine ⟨by omega, by omega, ?_⟩
  have e3 : n + (E - 1) = (k + E - 1022 - 53 + n + 1074).toNat + (-k).toNat := by omega
  rw [e3, p2_add, ← Nat.mul_assoc] at key
  exact Nat.eq_of_mul_eq_mul_right (p2_pos _) key
end GFl
