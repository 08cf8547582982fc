/- Plain laws of binary floats: the magnitude of a rung (in units of the format's least place), its order, and what it is to be the nearest rung of a ratio. No program. -/
import Ieee.Arith
namespace GFl

/-- The magnitude of rung r, in units of the least place; B: rungs to a binade. -/
def mg (B r : Nat) : Nat := if r < B then r else (B + r % B) * 2 ^ (r / B - 1)
/-- How far the next rung is. -/
def ulp (B r : Nat) : Nat := 2 ^ (r / B - 1)

theorem ulp_pos (B r : Nat) : 0 < ulp B r := Nat.two_pow_pos _

theorem mg_zero (B : Nat) (hB : 0 < B) : mg B 0 = 0 := by simp [mg, hB]

theorem mg_eq (B s t : Nat) (ht : t < B) : mg B ((s + 1) * B + t) = (B + t) * 2 ^ s := by
  have hB : 0 < B := by omega
  have h1 : ((s + 1) * B + t) % B = t := by rw [Nat.mul_comm, Nat.mul_add_mod, Nat.mod_eq_of_lt ht]
  have h2 : ((s + 1) * B + t) / B = s + 1 := by
    rw [Nat.mul_comm, Nat.mul_add_div hB, Nat.div_eq_of_lt ht]
  have h3 : ¬ (s + 1) * B + t < B := by rw [Nat.succ_mul]; omega
  unfold mg
  rw [if_neg h3, h1, h2]; rfl

theorem mg_small {B r : Nat} (h : r < B) : mg B r = r := by simp [mg, h]

theorem rung_split {B r : Nat} (hB : 0 < B) (h : B ≤ r) : ∃ s t, t < B ∧ r = (s + 1) * B + t := by
  refine ⟨r / B - 1, r % B, Nat.mod_lt _ hB, ?_⟩
  have h1 : 1 ≤ r / B := (Nat.one_le_div_iff hB).2 h
  rw [Nat.sub_add_cancel h1, Nat.mul_comm]
  exact (Nat.div_add_mod r B).symm

theorem ulp_eq (B s t : Nat) (ht : t < B) : ulp B ((s + 1) * B + t) = 2 ^ s := by
  have hB : 0 < B := by omega
  have h2 : ((s + 1) * B + t) / B = s + 1 := by
    rw [Nat.mul_comm, Nat.mul_add_div hB, Nat.div_eq_of_lt ht]
  unfold ulp; rw [h2]; rfl

theorem ulp_small {B r : Nat} (h : r < B) : ulp B r = 1 := by
  unfold ulp; rw [Nat.div_eq_of_lt h]

theorem mg_succ (B r : Nat) (hB : 0 < B) : mg B (r + 1) = mg B r + ulp B r := by
  by_cases h : r < B
  · rw [ulp_small h, mg_small h]
    by_cases h' : r + 1 < B
    · rw [mg_small h']
    · have e : r + 1 = (0 + 1) * B + 0 := by omega
      rw [e, mg_eq B 0 0 hB]; omega
  · obtain ⟨s, t, ht, rfl⟩ := rung_split hB (by omega : B ≤ r)
    rw [ulp_eq B s t ht, mg_eq B s t ht]
    by_cases h' : t + 1 < B
    · rw [Nat.add_assoc, mg_eq B s (t + 1) h', ← Nat.add_assoc, Nat.succ_mul (B + t)]
    · have e : (s + 1) * B + t + 1 = (s + 1 + 1) * B + 0 := by rw [Nat.succ_mul (s + 1)]; omega
      rw [e, mg_eq B (s + 1) 0 hB, Nat.pow_succ]
      have : B + t + 1 = B * 2 := by omega
      rw [← Nat.succ_mul, Nat.succ_eq_add_one, this, Nat.add_zero, Nat.mul_assoc, Nat.mul_comm 2]

theorem mg_lt_succ (B r : Nat) (hB : 0 < B) : mg B r < mg B (r + 1) := by
  rw [mg_succ B r hB]; have := ulp_pos B r; omega

theorem mg_mono {B r r' : Nat} (hB : 0 < B) (h : r ≤ r') : mg B r ≤ mg B r' := by
  obtain ⟨k, rfl⟩ := Nat.exists_eq_add_of_le h
  induction k with
  | zero => exact Nat.le_refl _
  | succ k ih => exact Nat.le_trans (ih (by omega)) (Nat.le_of_lt (mg_lt_succ B (r + k) hB))

theorem mg_strict {B r r' : Nat} (hB : 0 < B) (h : r < r') : mg B r < mg B r' :=
  Nat.lt_of_lt_of_le (mg_lt_succ B r hB) (mg_mono hB h)

theorem mg_le_iff {B r r' : Nat} (hB : 0 < B) : mg B r ≤ mg B r' ↔ r ≤ r' := by
  constructor
  · intro h
    rcases Nat.lt_or_ge r' r with h' | h'
    · have := mg_strict hB h'; omega
    · exact h'
  · exact mg_mono hB

theorem mg_lt_iff {B r r' : Nat} (hB : 0 < B) : mg B r < mg B r' ↔ r < r' := by
  have := mg_le_iff (r := r') (r' := r) hB
  omega

theorem mg_inj {B r r' : Nat} (hB : 0 < B) (h : mg B r = mg B r') : r = r' :=
  Nat.le_antisymm ((mg_le_iff hB).1 (Nat.le_of_eq h)) ((mg_le_iff hB).1 (Nat.le_of_eq h.symm))

theorem le_mg (B r : Nat) (hB : 0 < B) : r ≤ mg B r := by
  induction r with
  | zero => omega
  | succ r ih => rw [mg_succ B r hB]; have := ulp_pos B r; omega

/-- The rung r is the nearest of N / D, the even one of two. -/
structure IsRn (B N D r : Nat) : Prop where
  up : 2 * N ≤ (mg B r + mg B (r + 1)) * D
  upe : 2 * N = (mg B r + mg B (r + 1)) * D → r % 2 = 0
  dn : ∀ q, r = q + 1 → (mg B q + mg B r) * D ≤ 2 * N
  dne : ∀ q, r = q + 1 → (mg B q + mg B r) * D = 2 * N → r % 2 = 0

theorem mid_mono {B q q' : Nat} (hB : 0 < B) (h : q ≤ q') : mg B q + mg B (q + 1) ≤ mg B q' + mg B (q' + 1) :=
  Nat.add_le_add (mg_mono hB h) (mg_mono hB (by omega))

theorem IsRn.exact {B r D : Nat} (hB : 0 < B) (hD : 0 < D) : IsRn B (mg B r * D) D r := by
  have h1 := mg_lt_succ B r hB
  have e : 2 * (mg B r * D) = (mg B r + mg B r) * D := by rw [← Nat.mul_assoc, Nat.two_mul]
  refine ⟨?_, ?_, ?_, ?_⟩
  · rw [e]; exact Nat.mul_le_mul_right _ (by omega)
  · intro h; rw [e] at h; have := Nat.eq_of_mul_eq_mul_right hD h; omega
  · rintro q rfl
    have := mg_lt_succ B q hB
    rw [e]; exact Nat.mul_le_mul_right _ (by omega)
  · rintro q rfl h
    have := mg_lt_succ B q hB
    rw [e] at h; have := Nat.eq_of_mul_eq_mul_right hD h; omega

/-- A greater ratio has no lesser rung. -/
theorem IsRn.mono {B N D r N' D' r' : Nat} (hB : 0 < B) (hD : 0 < D) (hD' : 0 < D') (h : IsRn B N D r) (h' : IsRn B N' D' r') (le : N * D' ≤ N' * D) : r ≤ r' := by
  rcases Nat.lt_or_ge r' r with hlt | hge
  · exfalso
    obtain ⟨q, rfl⟩ : ∃ q, r = q + 1 := ⟨r - 1, by omega⟩
    have a := h.dn q rfl
    have b := h'.up
    have m := mid_mono hB (show r' ≤ q by omega)
    -- (mid q) D ≤ 2 N, 2 N' ≤ (mid r') D'
    have a' : (mg B q + mg B (q + 1)) * D * D' ≤ 2 * N * D' := Nat.mul_le_mul_right _ a
    have b' : 2 * N' * D ≤ (mg B r' + mg B (r' + 1)) * D' * D := Nat.mul_le_mul_right _ b
    have c' : (mg B r' + mg B (r' + 1)) * D' * D ≤ (mg B q + mg B (q + 1)) * D * D' := by
      rw [Nat.mul_assoc, Nat.mul_assoc, Nat.mul_comm D' D]; exact Nat.mul_le_mul_right _ m
    have d' : 2 * N * D' ≤ 2 * N' * D := by rw [Nat.mul_assoc, Nat.mul_assoc]; exact Nat.mul_le_mul_left _ le
    have e1 : (mg B q + mg B (q + 1)) * D * D' = 2 * N * D' := by omega
    have e2 : 2 * N' * D = (mg B r' + mg B (r' + 1)) * D' * D := by omega
    have f1 := h.dne q rfl (Nat.eq_of_mul_eq_mul_right hD' e1)
    have f2 := h'.upe (Nat.eq_of_mul_eq_mul_right hD e2)
    have e3 : (mg B r' + mg B (r' + 1)) * (D * D') = (mg B q + mg B (q + 1)) * (D * D') := by
      rw [← Nat.mul_assoc, ← Nat.mul_assoc, Nat.mul_assoc _ D D', Nat.mul_comm D D', ← Nat.mul_assoc, e1]
      omega
    have e4 := Nat.eq_of_mul_eq_mul_right (Nat.mul_pos hD hD') e3
    rcases Nat.lt_or_ge r' q with h1 | h1
    · have := mg_strict hB h1
      have := mg_strict hB (show r' + 1 < q + 1 by omega)
      omega
    · omega
  · exact hge

theorem IsRn.unique {B N D r r' : Nat} (hB : 0 < B) (hD : 0 < D) (h : IsRn B N D r) (h' : IsRn B N D r') : r = r' :=
  Nat.le_antisymm (h.mono hB hD hD h' (Nat.le_refl _)) (h'.mono hB hD hD h (Nat.le_refl _))

theorem IsRn.scale {B N D r : Nat} {c : Nat} (hc : 0 < c) : IsRn B (N * c) (D * c) r ↔ IsRn B N D r := by
  have e : ∀ x : Nat, x * (D * c) = x * D * c := fun x => by rw [Nat.mul_assoc]
  have e2 : 2 * (N * c) = 2 * N * c := by rw [Nat.mul_assoc]
  constructor
  · rintro ⟨a, b, d, f⟩
    refine ⟨?_, ?_, ?_, ?_⟩
    · rw [e, e2] at a; exact Nat.le_of_mul_le_mul_right a hc
    · intro h; apply b; rw [e, e2, h]
    · intro q hq; have := d q hq; rw [e, e2] at this; exact Nat.le_of_mul_le_mul_right this hc
    · intro q hq h; apply f q hq; rw [e, e2, h]
  · rintro ⟨a, b, d, f⟩
    refine ⟨?_, ?_, ?_, ?_⟩
    · rw [e, e2]; exact Nat.mul_le_mul_right _ a
    · intro h; rw [e, e2] at h; exact b (Nat.eq_of_mul_eq_mul_right hc h)
    · intro q hq; rw [e, e2]; exact Nat.mul_le_mul_right _ (d q hq)
    · intro q hq h; rw [e, e2] at h; exact f q hq (Nat.eq_of_mul_eq_mul_right hc h)

/-- The same ratio in other words. -/
theorem IsRn.cross {B N D N' D' r : Nat} (hD : 0 < D) (hD' : 0 < D') (h : IsRn B N D r) (e : N * D' = N' * D) : IsRn B N' D' r := by
  have h1 := (IsRn.scale (B := B) (r := r) (N := N) (D := D) hD').2 h
  rw [e, Nat.mul_comm D D'] at h1
  exact (IsRn.scale hD).1 h1

theorem IsRn.zero {B D : Nat} (hB : 0 < B) (hD : 0 < D) : IsRn B 0 D 0 := by
  have := IsRn.exact (B := B) (r := 0) hB hD
  rwa [mg_zero B hB, Nat.zero_mul] at this

/-- The rung of a floor: mg r D ≤ N < mg (r + 1) D; the nearest is r or r + 1. -/
theorem IsRn.of_floor {B N D r : Nat} (hB : 0 < B) (lo : mg B r * D ≤ N) (hi : N < mg B (r + 1) * D) (c : Bool)
    (hc : c = (decide ((mg B r + mg B (r + 1)) * D < 2 * N) || decide ((mg B r + mg B (r + 1)) * D = 2 * N) && decide (r % 2 = 1))) : IsRn B N D (r + c.toNat) := by
  have a1 := Nat.add_mul (mg B r) (mg B (r + 1)) D
  cases c with
  | false =>
    simp only [Bool.false_eq, Bool.or_eq_false_iff, decide_eq_false_iff_not, Bool.and_eq_false_iff] at hc
    obtain ⟨h1, h2⟩ := hc
    refine ⟨by simp; omega, ?_, ?_, ?_⟩
    · simp only [Bool.toNat_false, Nat.add_zero]; intro h; rcases h2 with h2 | h2 <;> omega
    · simp only [Bool.toNat_false, Nat.add_zero]
      rintro q rfl
      have := Nat.mul_le_mul_right D (Nat.le_of_lt (mg_lt_succ B q hB))
      rw [Nat.add_mul]; omega
    · simp only [Bool.toNat_false, Nat.add_zero]
      rintro q rfl h
      have hD : 0 < D := by
        rcases Nat.eq_zero_or_pos D with h0 | h0
        · subst h0; simp at hi
        · exact h0
      have := Nat.mul_lt_mul_of_pos_right (mg_lt_succ B q hB) hD
      rw [Nat.add_mul] at h; omega
  | true =>
    have hc' : (mg B r + mg B (r + 1)) * D < 2 * N ∨ ((mg B r + mg B (r + 1)) * D = 2 * N ∧ r % 2 = 1) := by simpa using hc.symm
    have hD : 0 < D := by
      rcases Nat.eq_zero_or_pos D with h0 | h0
      · subst h0; simp at hi
      · exact h0
    have g := Nat.mul_lt_mul_of_pos_right (mg_lt_succ B (r + 1) hB) hD
    refine ⟨?_, ?_, ?_, ?_⟩
    · simp only [Bool.toNat_true]; rw [Nat.add_mul]; omega
    · simp only [Bool.toNat_true]; rw [Nat.add_mul]; intro h; omega
    · simp only [Bool.toNat_true]; intro q hq; obtain rfl : r = q := by omega
      omega
    · simp only [Bool.toNat_true]; intro q hq h; obtain rfl : r = q := by omega
      omega
end GFl
