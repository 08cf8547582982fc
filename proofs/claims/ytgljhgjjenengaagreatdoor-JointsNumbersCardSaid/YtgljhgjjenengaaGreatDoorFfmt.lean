/- Plain laws of binary floats: how a word is read, and which rung the nearest word has. No program. -/
import Derived.Test.YtgljhgjjenengaaGreatDoorFmg
namespace GFl
open Ieee

theorem cut_even (neg : Bool) (n drop : Nat) : Toward.even.cut neg n drop =
    n / 2 ^ drop + (decide (2 ^ drop < 2 * (n % 2 ^ drop)) || decide (2 ^ drop = 2 * (n % 2 ^ drop)) && decide (n / 2 ^ drop % 2 = 1)).toNat := by
  have big : ∀ k, n.log2 + 2 ≤ k → 2 * n < 2 ^ k := by
    intro k hk
    have h1 : n < 2 ^ (n.log2 + 1) := Nat.lt_log2_self
    have h2 : 2 ^ (n.log2 + 2) ≤ 2 ^ k := Nat.pow_le_pow_right (by omega) hk
    have h3 : 2 ^ (n.log2 + 2) = 2 ^ (n.log2 + 1) * 2 := Nat.pow_succ ..
    omega
  have zero : ∀ k, n.log2 + 2 ≤ k → n / 2 ^ k + (decide (2 ^ k < 2 * (n % 2 ^ k)) || decide (2 ^ k = 2 * (n % 2 ^ k)) && decide (n / 2 ^ k % 2 = 1)).toNat = 0 := by
    intro k hk
    have := big k hk
    have e1 : n / 2 ^ k = 0 := Nat.div_eq_of_lt (by omega)
    have e2 : n % 2 ^ k = n := Nat.mod_eq_of_lt (by omega)
    rw [e1, e2]
    have h1 : ¬ 2 ^ k < 2 * n := by omega
    simp [h1]
  have unf : ∀ g, g = 1 <<< min drop (n.log2 + 2) → Toward.even.cut neg n drop = n / g + (decide (g < 2 * (n % g)) || decide (g = 2 * (n % g)) && decide (n / g % 2 = 1)).toNat := by
    intro g hg
    subst hg
    unfold Toward.cut
    rfl
  rw [unf _ rfl, Nat.one_shiftLeft]
  rcases Nat.le_total drop (n.log2 + 2) with h | h
  · rw [Nat.min_eq_left h]
  · rw [Nat.min_eq_right h, zero _ (Nat.le_refl _), zero _ h]

/-- What is asked of a format. -/
structure Good (f : Format) : Prop where
  e : 2 ≤ f.exponentBits
  p : 2 ≤ f.fractionBits

theorem good_double : Good double := ⟨by decide, by decide⟩
theorem good_single : Good single := ⟨by decide, by decide⟩

section
variable {f : Format}

theorem binade_pos (f : Format) : 0 < f.binade := Nat.two_pow_pos _

theorem sw_eq (f : Format) : f.signWeight = f.infRung + f.binade := by
  unfold Format.signWeight Format.infRung
  rw [Nat.pow_add, Nat.sub_mul, Nat.one_mul]
  have h : 1 * f.binade ≤ 2 ^ f.exponentBits * f.binade := Nat.mul_le_mul_right _ (Nat.two_pow_pos _)
  show 2 ^ f.exponentBits * f.binade = _
  omega

theorem width_eq (f : Format) : 2 ^ f.width = 2 * f.signWeight := by
  unfold Format.width Format.signWeight
  rw [Nat.add_assoc, Nat.add_comm 1, Nat.pow_succ, Nat.mul_comm]

/-- Is the sign set? -/
def sgn (f : Format) (x : Nat) : Bool := decide (f.signWeight ≤ x)
def rung (f : Format) (x : Nat) : Nat := x % f.signWeight

theorem sgn_eq {x : Nat} (h : x < 2 ^ f.width) : (x / f.signWeight % 2 == 1) = sgn f x := by
  rw [width_eq] at h
  have hs : 0 < f.signWeight := Nat.two_pow_pos _
  unfold sgn
  by_cases h1 : f.signWeight ≤ x
  · have : x / f.signWeight = 1 := by
      have a : 1 ≤ x / f.signWeight := (Nat.one_le_div_iff hs).2 h1
      have b : x / f.signWeight < 2 := Nat.div_lt_of_lt_mul (by omega)
      omega
    simp [this, h1]
  · have : x / f.signWeight = 0 := Nat.div_eq_of_lt (by omega)
    simp [this, h1]

theorem word_split {x : Nat} (h : x < 2 ^ f.width) : x = f.word (sgn f x) (rung f x) := by
  rw [width_eq] at h
  unfold Format.word sgn rung
  by_cases h1 : f.signWeight ≤ x
  · simp only [h1, decide_true, if_true]
    rw [Nat.mod_eq_sub_mod h1, Nat.mod_eq_of_lt (by omega)]; omega
  · simp only [h1, decide_false, Bool.false_eq_true, if_false]
    rw [Nat.mod_eq_of_lt (by omega)]

theorem rung_word {s : Bool} {r : Nat} (h : r < f.signWeight) : rung f (f.word s r) = r := by
  unfold rung Format.word
  cases s
  · simp [Nat.mod_eq_of_lt h]
  · simp [Nat.mod_eq_of_lt h]

theorem sgn_word {s : Bool} {r : Nat} (h : r < f.signWeight) : sgn f (f.word s r) = s := by
  unfold sgn Format.word
  cases s
  · simp; omega
  · simp

/-- A finite word is read as its rung's magnitude. -/
theorem read_num {x : Nat} (h : x < 2 ^ f.width) (hr : rung f x < f.infRung) :
    ∃ m e, f.read x = .number (sgn f x) m e ∧ f.leastPlace ≤ e ∧ m * 2 ^ (e - f.leastPlace).toNat = mg f.binade (rung f x) ∧ m < 2 * f.binade ∧ (m = 0 ↔ rung f x = 0) := by
  unfold rung at hr
  unfold Format.read
  simp only [sgn_eq h]
  by_cases h1 : x % f.signWeight < f.binade
  · refine ⟨x % f.signWeight, f.leastPlace, by simp [h1], Int.le_refl _, ?_, by omega, Iff.rfl⟩
    unfold rung
    rw [mg_small h1]; simp
  · refine ⟨f.binade + x % f.signWeight % f.binade, f.leastPlace + (x % f.signWeight / f.binade - 1 : Nat), by simp [h1, hr], by omega, ?_, ?_, ?_⟩
    · have e : (f.leastPlace + (x % f.signWeight / f.binade - 1 : Nat) - f.leastPlace).toNat = x % f.signWeight / f.binade - 1 := by omega
      rw [e]; unfold rung mg; rw [if_neg h1]
    · have := Nat.mod_lt (x % f.signWeight) (binade_pos f); omega
    · have := binade_pos f; unfold rung; constructor <;> intro h2 <;> omega

theorem read_inf {x : Nat} (h : x < 2 ^ f.width) (hr : rung f x = f.infRung) (g : Good f) : f.read x = .infinity (sgn f x) := by
  unfold rung at hr
  have hb : f.binade ≤ f.infRung := by
    unfold Format.infRung
    have : 2 ^ 2 ≤ 2 ^ f.exponentBits := Nat.pow_le_pow_right (by omega) g.e
    exact Nat.le_mul_of_pos_left _ (by omega)
  unfold Format.read
  simp only [sgn_eq h, hr]
  rw [if_neg (by omega), if_neg (by omega)]; rfl

theorem read_nan {x : Nat} (h : x < 2 ^ f.width) (hr : f.infRung < rung f x) (g : Good f) : f.read x = .nan (sgn f x) (rung f x - f.infRung) := by
  have hb : f.binade ≤ f.infRung := by
    unfold Format.infRung
    have : 2 ^ 2 ≤ 2 ^ f.exponentBits := Nat.pow_le_pow_right (by omega) g.e
    exact Nat.le_mul_of_pos_left _ (by omega)
  unfold rung at hr ⊢
  unfold Format.read
  simp only [sgn_eq h]
  rw [if_neg (by omega), if_neg (by omega), if_neg (by omega)]

theorem two_pow_toNat_mul (a b : Int) (c : Nat) (h : a + c = b) (ha : 0 ≤ a) : 2 ^ a.toNat * 2 ^ c = 2 ^ b.toNat := by
  rw [← Nat.pow_add]; congr 1; omega

/-- The nearest word has the nearest rung, infinity's at the most. -/
theorem nearest_rn (g : Good f) (neg : Bool) (mag : Nat) (place : Int) :
    ∃ r, IsRn f.binade (mag * 2 ^ (place - f.leastPlace).toNat) (2 ^ (f.leastPlace - place).toNat) r ∧ f.nearest neg mag place = f.word neg (min r f.infRung) := by
  have hB := binade_pos f
  by_cases h0 : mag = 0
  · subst h0
    refine ⟨0, ?_, ?_⟩
    · rw [Nat.zero_mul]; exact IsRn.zero hB (Nat.two_pow_pos _)
    · simp [Format.nearest]
  have hlo := Nat.log2_self_le h0
  have hhi : mag < 2 ^ (mag.log2 + 1) := Nat.lt_log2_self
  have hBp : f.binade = 2 ^ f.fractionBits := rfl
  have h2B : 2 * f.binade = 2 ^ (f.fractionBits + 1) := by rw [Nat.pow_succ, hBp, Nat.mul_comm]
  have heven : f.binade % 2 = 0 := by
    have : f.fractionBits = (f.fractionBits - 1) + 1 := by have := g.p; omega
    rw [hBp, this, Nat.pow_succ]; omega
  unfold Format.nearest
  rw [if_neg h0]
  dsimp only
  by_cases hc : place + mag.log2 - f.fractionBits ≤ f.leastPlace
  · -- the last place is the least one
    rw [Int.max_eq_right hc]
    generalize hN : mag * 2 ^ (place - f.leastPlace).toNat = N
    generalize hd : (f.leastPlace - place).toNat = d
    rw [Nat.shiftLeft_eq, hN, cut_even]
    have hNlt : N < 2 * f.binade * 2 ^ d := by
      rw [h2B]
      subst hN
      by_cases hp : f.leastPlace ≤ place
      · have d0 : d = 0 := by omega
        subst d0
        have : mag * 2 ^ (place - f.leastPlace).toNat < 2 ^ (mag.log2 + 1) * 2 ^ (place - f.leastPlace).toNat := Nat.mul_lt_mul_of_pos_right hhi (Nat.two_pow_pos _)
        rw [← Nat.pow_add] at this
        have l : 2 ^ (mag.log2 + 1 + (place - f.leastPlace).toNat) ≤ 2 ^ (f.fractionBits + 1) := Nat.pow_le_pow_right (by omega) (by omega)
        omega
      · have e0 : (place - f.leastPlace).toNat = 0 := by omega
        rw [e0, Nat.pow_zero, Nat.mul_one, ← Nat.pow_add]
        exact Nat.lt_of_lt_of_le hhi (Nat.pow_le_pow_right (by omega) (by omega))
    have hD : 0 < 2 ^ d := Nat.two_pow_pos _
    generalize 2 ^ d = D at *
    have hq : N / D < 2 * f.binade := Nat.div_lt_of_lt_mul (by rw [Nat.mul_comm]; exact hNlt)
    have hdm := Nat.div_add_mod N D
    have hml := Nat.mod_lt N hD
    generalize hq' : N / D = q at *
    generalize N % D = t at *
    have m0 : mg f.binade q = q := by
      by_cases hs : q < f.binade
      · exact mg_small hs
      · have e : q = (0 + 1) * f.binade + (q - f.binade) := by omega
        rw [e, mg_eq _ 0 _ (by omega)]; omega
    have m1 : mg f.binade (q + 1) = q + 1 := by
      rw [mg_succ _ _ hB, m0]
      by_cases hs : q < f.binade
      · rw [ulp_small hs]
      · have e : q = (0 + 1) * f.binade + (q - f.binade) := by omega
        have := ulp_eq f.binade 0 (q - f.binade) (by omega)
        rw [← e] at this; rw [this]
    refine ⟨_, IsRn.of_floor (r := q) hB ?_ ?_ _ rfl, ?_⟩
    · rw [m0, Nat.mul_comm]; omega
    · rw [m1, Nat.succ_mul, Nat.mul_comm]; omega
    · have e1 : f.leastPlace - f.leastPlace = 0 := by omega
      rw [m0, m1, e1]
      have e2 : (q + (q + 1)) * D = 2 * (D * q) + D := by
        rw [← Nat.add_assoc, Nat.add_mul, ← Nat.two_mul, Nat.mul_assoc, Nat.mul_comm q D]; omega
      have e3 : (decide (D < 2 * t) || decide (D = 2 * t) && decide (q % 2 = 1)) = (decide ((q + (q + 1)) * D < 2 * N) || decide ((q + (q + 1)) * D = 2 * N) && decide (q % 2 = 1)) := by
        rw [e2]
        congr 1
        · simp only [decide_eq_decide]; omega
        · congr 1; simp only [decide_eq_decide]; omega
      rw [e3]; simp
  · -- a normal number
    have hc' : f.leastPlace < place + mag.log2 - f.fractionBits := by omega
    rw [Int.max_eq_left (by omega)]
    generalize hl : place + mag.log2 - f.fractionBits = last at *
    generalize hX : mag <<< (place - last).toNat = X
    rw [Nat.shiftLeft_eq] at hX
    generalize hd : (last - place).toNat = d
    obtain ⟨s, hs⟩ : ∃ s : Nat, (last - f.leastPlace).toNat = s + 1 := ⟨(last - f.leastPlace).toNat - 1, by omega⟩
    have hXlo : f.binade * 2 ^ d ≤ X := by
      rw [hBp, ← Nat.pow_add, ← hX]
      refine Nat.le_trans (m := 2 ^ mag.log2 * 2 ^ (place - last).toNat) ?_ (Nat.mul_le_mul_right _ hlo)
      rw [← Nat.pow_add]
      exact Nat.pow_le_pow_right (by omega) (by omega)
    have hXhi : X < 2 * f.binade * 2 ^ d := by
      rw [h2B, ← Nat.pow_add, ← hX]
      refine Nat.lt_of_lt_of_le (Nat.mul_lt_mul_of_pos_right hhi (Nat.two_pow_pos _)) ?_
      rw [← Nat.pow_add]
      exact Nat.pow_le_pow_right (by omega) (by omega)
    have cross : X * 2 ^ (s + 1) * 2 ^ (f.leastPlace - place).toNat = mag * 2 ^ (place - f.leastPlace).toNat * 2 ^ d := by
      rw [← hX, Nat.mul_assoc, Nat.mul_assoc, Nat.mul_assoc, ← Nat.pow_add, ← Nat.pow_add, ← Nat.pow_add]
      congr 2; omega
    rw [cut_even]
    have hD : 0 < 2 ^ d := Nat.two_pow_pos _
    have hcr : ∀ r, IsRn f.binade (X * 2 ^ (s + 1)) (2 ^ d) r → IsRn f.binade (mag * 2 ^ (place - f.leastPlace).toNat) (2 ^ (f.leastPlace - place).toNat) r :=
      fun r h => h.cross hD (Nat.two_pow_pos _) cross
    generalize 2 ^ d = D at *
    have hq1 : X / D < 2 * f.binade := Nat.div_lt_of_lt_mul (by rw [Nat.mul_comm]; exact hXhi)
    have hq0 : f.binade ≤ X / D := (Nat.le_div_iff_mul_le hD).2 hXlo
    have hdm := Nat.div_add_mod X D
    have hml := Nat.mod_lt X hD
    generalize hq' : X / D = q at *
    generalize X % D = t at *
    obtain ⟨u, rfl⟩ : ∃ u, q = f.binade + u := ⟨q - f.binade, by omega⟩
    have hrung : (s + 1) * f.binade + (f.binade + u) = (s + 1 + 1) * f.binade + u := by rw [Nat.succ_mul (s + 1)]; omega
    have m0 := mg_eq f.binade (s + 1) u (by omega)
    have m1 : mg f.binade ((s + 1 + 1) * f.binade + u + 1) = (f.binade + u + 1) * 2 ^ (s + 1) := by
      rw [mg_succ _ _ hB, m0, ulp_eq f.binade (s + 1) u (by omega), Nat.succ_mul (f.binade + u)]
    have hS : 0 < 2 ^ (s + 1) := Nat.two_pow_pos _
    have par : ((s + 1 + 1) * f.binade + u) % 2 = (f.binade + u) % 2 := by
      rw [Nat.add_mod, Nat.mul_mod, heven]; omega
    refine ⟨_, hcr _ (IsRn.of_floor (r := (s + 1 + 1) * f.binade + u) hB ?_ ?_ _ rfl), ?_⟩
    · rw [m0, Nat.mul_right_comm]; exact Nat.mul_le_mul_right _ (by rw [Nat.mul_comm]; omega)
    · rw [m1, Nat.mul_right_comm]; exact Nat.mul_lt_mul_of_pos_right (by rw [Nat.succ_mul, Nat.mul_comm]; omega) hS
    · rw [hs, m0, m1]
      have e0 : ((f.binade + u) * 2 ^ (s + 1) + (f.binade + u + 1) * 2 ^ (s + 1)) * D = ((f.binade + u + (f.binade + u + 1)) * D) * 2 ^ (s + 1) := by
        rw [← Nat.add_mul, Nat.mul_right_comm]
      have e1 : 2 * (X * 2 ^ (s + 1)) = 2 * X * 2 ^ (s + 1) := by rw [Nat.mul_assoc]
      have e2 : (f.binade + u + (f.binade + u + 1)) * D = 2 * (D * (f.binade + u)) + D := by
        rw [← Nat.add_assoc, Nat.add_mul _ 1, ← Nat.two_mul, Nat.mul_assoc, Nat.mul_comm (f.binade + u) D]; omega
      have e3 : (decide (D < 2 * t) || decide (D = 2 * t) && decide ((f.binade + u) % 2 = 1)) =
          (decide (((f.binade + u) * 2 ^ (s + 1) + (f.binade + u + 1) * 2 ^ (s + 1)) * D < 2 * (X * 2 ^ (s + 1))) || decide (((f.binade + u) * 2 ^ (s + 1) + (f.binade + u + 1) * 2 ^ (s + 1)) * D = 2 * (X * 2 ^ (s + 1))) && decide (((s + 1 + 1) * f.binade + u) % 2 = 1)) := by
        rw [e0, e1, par, e2]
        congr 1
        · simp only [decide_eq_decide]
          rw [Nat.mul_lt_mul_right hS]; omega
        · congr 1; simp only [decide_eq_decide]
          rw [Nat.mul_left_inj (by omega)]; omega
      rw [e3, ← Nat.add_assoc, hrung]
end
end GFl
