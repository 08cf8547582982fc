/- The quotient of two finite words, as the model rounds it. -/
import Derived.Test.YtddleibffkaenaaDoorFops
namespace GFl
open Ieee Ieee.Format
section
variable {f : Format}

theorem sticky_le {D n c : Nat} (hn : 0 < n) : 2 * (D / n) + (D % n != 0).toNat ≤ 2 * c ↔ D ≤ c * n := by
  have h1 := Nat.div_add_mod D n
  have h2 := Nat.mod_lt D hn
  rcases Nat.eq_zero_or_pos (D % n) with h0 | h0
  · rw [h0] at h1 ⊢
    simp only [bne_self_eq_false, Bool.toNat_false, Nat.add_zero] at h1 ⊢
    rw [← h1, Nat.mul_comm n]
    constructor
    · intro h; rw [Nat.mul_div_cancel _ hn] at h; exact Nat.mul_le_mul_right _ (by omega)
    · intro h; have := Nat.le_of_mul_le_mul_right h hn; rw [Nat.mul_div_cancel _ hn]; omega
  · have e : (D % n != 0) = true := by simp; omega
    rw [e]
    simp only [Bool.toNat_true]
    constructor
    · intro h
      have : (D / n + 1) * n ≤ c * n := Nat.mul_le_mul_right _ (by omega)
      rw [Nat.add_mul, Nat.mul_comm (D / n)] at this; omega
    · intro h
      by_cases hc : D / n + 1 ≤ c
      · omega
      · have : c * n ≤ (D / n) * n := Nat.mul_le_mul_right _ (by omega)
        rw [Nat.mul_comm (D / n)] at this; omega
theorem sticky_ge {D n c : Nat} (hn : 0 < n) : 2 * c ≤ 2 * (D / n) + (D % n != 0).toNat ↔ c * n ≤ D := by
  rw [← Nat.le_div_iff_mul_le hn]
  have : (D % n != 0).toNat ≤ 1 := by cases (D % n != 0) <;> simp
  omega

/-- The middle of two neighbours: an odd number below 4 B, times a power of two. -/
theorem mid_form {B : Nat} (hB : 0 < B) (k : Nat) : ∃ u e, mg B k + mg B (k + 1) = u * 2 ^ e ∧ u < 4 * B := by
  rw [mg_succ _ _ hB]
  by_cases h : k < B
  · rw [mg_small h, ulp_small h]
    exact ⟨2 * k + 1, 0, by simp; omega, by omega⟩
  · have hk := Nat.div_add_mod k B
    have hm := Nat.mod_lt k hB
    have hd : 1 ≤ k / B := (Nat.one_le_div_iff hB).2 (by omega)
    have e : k = (k / B - 1 + 1) * B + k % B := by rw [Nat.sub_add_cancel hd, Nat.mul_comm]; exact hk.symm
    rw [e, mg_eq _ _ _ hm, ulp_eq _ _ _ hm]
    refine ⟨2 * (B + k % B) + 1, k / B - 1, ?_, by omega⟩
    generalize B + k % B = b
    rw [Nat.add_mul, Nat.mul_assoc, Nat.one_mul]; omega

theorem mid_dich {B q : Nat} (hB : 0 < B) (hq : 2 * B ≤ q) (a b k : Nat) : (∃ c, (mg B k + mg B (k + 1)) * 2 ^ b = 4 * 2 ^ a * c) ∨ (mg B k + mg B (k + 1)) * 2 ^ b < 4 * 2 ^ a * q := by
  obtain ⟨u, e, h, hu⟩ := mid_form hB k
  rw [h, Nat.mul_assoc, ← Nat.pow_add]
  by_cases hc : a + 2 ≤ e + b
  · refine .inl ⟨u * 2 ^ (e + b - (a + 2)), ?_⟩
    have : 4 * 2 ^ a = 2 ^ (a + 2) := by rw [Nat.pow_add, Nat.mul_comm]
    rw [this, Nat.mul_left_comm, ← Nat.pow_add]
    congr 2; omega
  · refine .inr ?_
    have h1 : 2 ^ (e + b) ≤ 2 ^ (a + 1) := Nat.pow_le_pow_right (by decide) (by omega)
    rw [Nat.pow_succ] at h1
    have h2 : u * 2 ^ (e + b) ≤ u * (2 ^ a * 2) := Nat.mul_le_mul_left _ h1
    have h3 : u * (2 ^ a * 2) < 4 * B * (2 ^ a * 2) := Nat.mul_lt_mul_of_pos_right hu (by have := Nat.two_pow_pos a; omega)
    have h4 : 4 * 2 ^ a * (2 * B) ≤ 4 * 2 ^ a * q := Nat.mul_le_mul_left _ hq
    have h5 : 4 * B * (2 ^ a * 2) = 4 * 2 ^ a * (2 * B) := by rw [Nat.mul_assoc 4 B, Nat.mul_assoc 4 (2 ^ a), Nat.mul_left_comm B, Nat.mul_comm B 2]
    omega

theorem sticky_mid {B D n : Nat} (hB : 0 < B) (hn : 0 < n) (hq : 2 * B ≤ D / n) (a b k : Nat) :
    (2 * ((2 * (D / n) + (D % n != 0).toNat) * 2 ^ a) ≤ (mg B k + mg B (k + 1)) * 2 ^ b ↔ 2 * (2 * D * 2 ^ a) ≤ (mg B k + mg B (k + 1)) * (n * 2 ^ b)) ∧
    ((mg B k + mg B (k + 1)) * 2 ^ b ≤ 2 * ((2 * (D / n) + (D % n != 0).toNat) * 2 ^ a) ↔ (mg B k + mg B (k + 1)) * (n * 2 ^ b) ≤ 2 * (2 * D * 2 ^ a)) := by
  have ha := Nat.two_pow_pos a
  have eS : ∀ S, 2 * (S * 2 ^ a) = 2 * 2 ^ a * S := fun S => by rw [Nat.mul_comm S, Nat.mul_assoc]
  have eD : 2 * (2 * D * 2 ^ a) = 4 * 2 ^ a * D := by rw [Nat.mul_comm (2 * D), ← Nat.mul_assoc, ← Nat.mul_assoc, Nat.mul_right_comm 2, ]
  have eM : (mg B k + mg B (k + 1)) * (n * 2 ^ b) = (mg B k + mg B (k + 1)) * 2 ^ b * n := by rw [Nat.mul_comm n, Nat.mul_assoc]
  have e4 : ∀ c, 4 * 2 ^ a * c = 2 * 2 ^ a * (2 * c) := fun c => by
    rw [← Nat.mul_assoc (2 * 2 ^ a)]
    congr 1
    omega
  rw [eS, eD, eM]
  rcases mid_dich hB hq a b k with ⟨c, hc⟩ | hlt
  · rw [hc]
    have h4 : 0 < 4 * 2 ^ a := by omega
    have h2 : 0 < 2 * 2 ^ a := by omega
    rw [Nat.mul_assoc (4 * 2 ^ a)]
    constructor
    · rw [e4 c, Nat.mul_le_mul_left_iff h2, sticky_le hn, Nat.mul_le_mul_left_iff h4]
    · rw [e4 c, Nat.mul_le_mul_left_iff h2, sticky_ge hn, Nat.mul_le_mul_left_iff h4]
  · generalize (mg B k + mg B (k + 1)) * 2 ^ b = M at *
    have s1 : 4 * 2 ^ a * (D / n) ≤ 2 * 2 ^ a * (2 * (D / n) + (D % n != 0).toNat) := by rw [e4]; exact Nat.mul_le_mul_left _ (by omega)
    have s2 : M * n < 4 * 2 ^ a * D := by
      have t1 : M * n < 4 * 2 ^ a * (D / n) * n := Nat.mul_lt_mul_of_pos_right hlt hn
      have t2 : 4 * 2 ^ a * (D / n) * n ≤ 4 * 2 ^ a * D := by rw [Nat.mul_assoc]; exact Nat.mul_le_mul_left _ (Nat.div_mul_le_self D n)
      omega
    generalize 2 * 2 ^ a * (2 * (D / n) + (D % n != 0).toNat) = S at *
    constructor <;> constructor <;> intro h <;> omega

theorem IsRn.sticky {B D n a b r : Nat} (hB : 0 < B) (hn : 0 < n) (hq : 2 * B ≤ D / n) (h : IsRn B ((2 * (D / n) + (D % n != 0).toNat) * 2 ^ a) (2 ^ b) r) : IsRn B (2 * D * 2 ^ a) (n * 2 ^ b) r := by
  refine ⟨?_, ?_, ?_, ?_⟩
  · exact (sticky_mid hB hn hq a b r).1.1 h.up
  · intro e
    have m := sticky_mid hB hn hq a b r
    exact h.upe (Nat.le_antisymm (m.1.2 (Nat.le_of_eq e)) (m.2.2 (Nat.le_of_eq e.symm)))
  · rintro q rfl
    exact (sticky_mid hB hn hq a b q).2.1 (h.dn q rfl)
  · intro q hq' e
    subst hq'
    have m := sticky_mid hB hn hq a b q
    exact h.dne q rfl (Nat.le_antisymm (m.2.2 (Nat.le_of_eq e)) (m.1.2 (Nat.le_of_eq e.symm)))

/-- The quotient of two finite words, the lower not nought. -/
theorem div_fin (g : Good f) {x y : Nat} (hx : x < 2 ^ f.width) (hy : y < 2 ^ f.width) (hx1 : rung f x < f.infRung) (hy1 : rung f y < f.infRung) (hy0 : rung f y ≠ 0) (hL : f.leastPlace ≤ 0) :
    ∃ r, IsRn f.binade (mg f.binade (rung f x) * 2 ^ (-f.leastPlace).toNat) (mg f.binade (rung f y)) r ∧
      f.div x y = some (f.word (sgn f x ^^ sgn f y) (min r f.infRung)) := by
  have hB := binade_pos f
  obtain ⟨m, i, e1, li, hm, _, hm0⟩ := read_num hx hx1
  obtain ⟨n, j, e2, lj, hn, _, hn0⟩ := read_num hy hy1
  have hnz : n ≠ 0 := fun h => hy0 (hn0.1 h)
  unfold Format.div
  rw [e1, e2]
  simp only [Datum.quotient, if_neg hnz, Option.map_some, Format.write]
  rw [Nat.shiftLeft_eq]
  generalize hmore : f.fractionBits + 2 + n.log2 - m.log2 = more
  obtain ⟨r, hr, hw⟩ := nearest_rn g (sgn f x ^^ sgn f y) (2 * (m * 2 ^ more / n) + (m * 2 ^ more % n != 0).toNat) (i - j - more - 1)
  refine ⟨r, ?_, by rw [hw]⟩
  have hmy : 0 < mg f.binade (rung f y) := by rw [← hn]; exact Nat.mul_pos (Nat.pos_of_ne_zero hnz) (Nat.two_pow_pos _)
  by_cases hmz : m = 0
  · subst hmz
    rw [Nat.zero_mul] at hm hr
    rw [← hm, Nat.zero_mul]
    simp only [Nat.zero_div, Nat.mul_zero, Nat.zero_mod, bne_self_eq_false, Bool.toNat_false, Nat.add_zero, Nat.zero_mul] at hr
    rw [hr.unique hB (Nat.two_pow_pos _) (IsRn.zero hB (Nat.two_pow_pos _))]
    exact IsRn.zero hB hmy
  have hq : 2 * f.binade ≤ m * 2 ^ more / n := by
    rw [Nat.le_div_iff_mul_le (Nat.pos_of_ne_zero hnz)]
    have h1 : n < 2 ^ (n.log2 + 1) := Nat.lt_log2_self
    have h2 : 2 ^ m.log2 ≤ m := Nat.log2_self_le hmz
    have h3 : 2 ^ m.log2 * 2 ^ more ≤ m * 2 ^ more := Nat.mul_le_mul_right _ h2
    rw [← Nat.pow_add] at h3
    have h4 : 2 ^ (f.fractionBits + 1 + (n.log2 + 1)) ≤ 2 ^ (m.log2 + more) := Nat.pow_le_pow_right (by decide) (by omega)
    have h5 : 2 * f.binade * n ≤ 2 * f.binade * 2 ^ (n.log2 + 1) := Nat.mul_le_mul_left _ (Nat.le_of_lt h1)
    have h6 : 2 * f.binade = 2 ^ (f.fractionBits + 1) := by rw [Nat.pow_succ, Nat.mul_comm]; rfl
    rw [Nat.pow_add, ← h6] at h4
    omega
  refine (hr.sticky hB (Nat.pos_of_ne_zero hnz) hq).cross (Nat.mul_pos (Nat.pos_of_ne_zero hnz) (Nat.two_pow_pos _)) hmy ?_
  rw [← hm, ← hn]
  have c1 : 2 * (m * 2 ^ more) * 2 ^ (i - j - more - 1 - f.leastPlace).toNat * (n * 2 ^ (j - f.leastPlace).toNat) = m * n * (2 ^ (1 + more + (i - j - more - 1 - f.leastPlace).toNat + (j - f.leastPlace).toNat)) := by
    rw [Nat.pow_add, Nat.pow_add, Nat.pow_add]
    generalize 2 ^ more = A
    generalize 2 ^ (i - j - more - 1 - f.leastPlace).toNat = A'
    generalize 2 ^ (j - f.leastPlace).toNat = A''
    simp only [Nat.pow_one, Nat.mul_assoc, Nat.mul_comm, Nat.mul_left_comm]
  have c2 : m * 2 ^ (i - f.leastPlace).toNat * 2 ^ (-f.leastPlace).toNat * (n * 2 ^ (f.leastPlace - (i - j - more - 1)).toNat) = m * n * (2 ^ ((i - f.leastPlace).toNat + (-f.leastPlace).toNat + (f.leastPlace - (i - j - more - 1)).toNat)) := by
    rw [Nat.pow_add, Nat.pow_add]
    generalize 2 ^ (i - f.leastPlace).toNat = A
    generalize 2 ^ (-f.leastPlace).toNat = A'
    generalize 2 ^ (f.leastPlace - (i - j - more - 1)).toNat = A''
    simp only [Nat.mul_comm, Nat.mul_left_comm]
  rw [c1, c2]
  congr 2
  omega
end
end GFl
