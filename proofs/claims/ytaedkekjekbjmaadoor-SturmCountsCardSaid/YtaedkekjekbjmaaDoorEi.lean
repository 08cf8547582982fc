import Ieee.Arith
import Derived.Test.YtaedkekjekbjmaaDoorRows
import Derived.WalkKit
import Derived.WalkLawsBesides
import Derived.Laws.Externs
import Derived.Lib.Hide
import Derived.Deep.QuietTactic
import Derived.BigQuiet
import Derived.Deep.Light
import Derived.Test.YtaedkekjekbjmaaDoorEg
import Derived.Test.YtaedkekjekbjmaaDoorEd
import Derived.Test.YtaedkekjekbjmaaDoorEe
import Derived.Test.YtaedkekjekbjmaaDoorEf
import Derived.Test.YtaedkekjekbjmaaDoorEh
import Derived.OrdersHeld
import Derived.RegionTactic
/- Plain laws of binary floats: the magnitude of a rung (in units of the format's least place), its order, and what it is to be the nearest rung of a ratio. No program. -/
namespace GFl

/-- The magnitude of rung r, in units of the least place; B: rungs to a binade. -/
def mg (B r : Nat) : Nat := if r < B then r else (B + r % B) * 2 ^ (r / B - 1)
/-- How far the next rung is. -/
def ulp (B r : Nat) : Nat := 2 ^ (r / B - 1)

theorem ulp_pos (B r : Nat) : 0 < ulp B r := Nat.two_pow_pos _

theorem mg_zero (B : Nat) (hB : 0 < B) : mg B 0 = 0 := by simp [mg, hB]

theorem mg_eq (B s t : Nat) (ht : t < B) : mg B ((s + 1) * B + t) = (B + t) * 2 ^ s := by
  have hB : 0 < B := by omega
  have h1 : ((s + 1) * B + t) % B = t := by rw [Nat.mul_comm, Nat.mul_add_mod, Nat.mod_eq_of_lt ht]
  have h2 : ((s + 1) * B + t) / B = s + 1 := by
    rw [Nat.mul_comm, Nat.mul_add_div hB, Nat.div_eq_of_lt ht]
  have h3 : ¬ (s + 1) * B + t < B := by rw [Nat.succ_mul]; omega
  unfold mg
  rw [if_neg h3, h1, h2]; rfl

theorem mg_small {B r : Nat} (h : r < B) : mg B r = r := by simp [mg, h]

theorem rung_split {B r : Nat} (hB : 0 < B) (h : B ≤ r) : ∃ s t, t < B ∧ r = (s + 1) * B + t := by
  refine ⟨r / B - 1, r % B, Nat.mod_lt _ hB, ?_⟩
  have h1 : 1 ≤ r / B := (Nat.one_le_div_iff hB).2 h
  rw [Nat.sub_add_cancel h1, Nat.mul_comm]
  exact (Nat.div_add_mod r B).symm

theorem ulp_eq (B s t : Nat) (ht : t < B) : ulp B ((s + 1) * B + t) = 2 ^ s := by
  have hB : 0 < B := by omega
  have h2 : ((s + 1) * B + t) / B = s + 1 := by
    rw [Nat.mul_comm, Nat.mul_add_div hB, Nat.div_eq_of_lt ht]
  unfold ulp; rw [h2]; rfl

theorem ulp_small {B r : Nat} (h : r < B) : ulp B r = 1 := by
  unfold ulp; rw [Nat.div_eq_of_lt h]

theorem mg_succ (B r : Nat) (hB : 0 < B) : mg B (r + 1) = mg B r + ulp B r := by
  by_cases h : r < B
  · rw [ulp_small h, mg_small h]
    by_cases h' : r + 1 < B
    · rw [mg_small h']
    · have e : r + 1 = (0 + 1) * B + 0 := by omega
      rw [e, mg_eq B 0 0 hB]; omega
  · obtain ⟨s, t, ht, rfl⟩ := rung_split hB (by omega : B ≤ r)
    rw [ulp_eq B s t ht, mg_eq B s t ht]
    by_cases h' : t + 1 < B
    · rw [Nat.add_assoc, mg_eq B s (t + 1) h', ← Nat.add_assoc, Nat.succ_mul (B + t)]
    · have e : (s + 1) * B + t + 1 = (s + 1 + 1) * B + 0 := by rw [Nat.succ_mul (s + 1)]; omega
      rw [e, mg_eq B (s + 1) 0 hB, Nat.pow_succ]
      have : B + t + 1 = B * 2 := by omega
      rw [← Nat.succ_mul, Nat.succ_eq_add_one, this, Nat.add_zero, Nat.mul_assoc, Nat.mul_comm 2]

theorem mg_lt_succ (B r : Nat) (hB : 0 < B) : mg B r < mg B (r + 1) := by
  rw [mg_succ B r hB]; have := ulp_pos B r; omega

theorem mg_mono {B r r' : Nat} (hB : 0 < B) (h : r ≤ r') : mg B r ≤ mg B r' := by
  obtain ⟨k, rfl⟩ := Nat.exists_eq_add_of_le h
  induction k with
  | zero => exact Nat.le_refl _
  | succ k ih => exact Nat.le_trans (ih (by omega)) (Nat.le_of_lt (mg_lt_succ B (r + k) hB))

theorem mg_strict {B r r' : Nat} (hB : 0 < B) (h : r < r') : mg B r < mg B r' :=
  Nat.lt_of_lt_of_le (mg_lt_succ B r hB) (mg_mono hB h)

theorem mg_le_iff {B r r' : Nat} (hB : 0 < B) : mg B r ≤ mg B r' ↔ r ≤ r' := by
  constructor
  · intro h
    rcases Nat.lt_or_ge r' r with h' | h'
    · have := mg_strict hB h'; omega
    · exact h'
  · exact mg_mono hB

theorem mg_lt_iff {B r r' : Nat} (hB : 0 < B) : mg B r < mg B r' ↔ r < r' := by
  have := mg_le_iff (r := r') (r' := r) hB
  omega

theorem mg_inj {B r r' : Nat} (hB : 0 < B) (h : mg B r = mg B r') : r = r' :=
  Nat.le_antisymm ((mg_le_iff hB).1 (Nat.le_of_eq h)) ((mg_le_iff hB).1 (Nat.le_of_eq h.symm))

theorem le_mg (B r : Nat) (hB : 0 < B) : r ≤ mg B r := by
  induction r with
  | zero => omega
  | succ r ih => rw [mg_succ B r hB]; have := ulp_pos B r; omega

/-- The rung r is the nearest of N / D, the even one of two. -/
structure IsRn (B N D r : Nat) : Prop where
  up : 2 * N ≤ (mg B r + mg B (r + 1)) * D
  upe : 2 * N = (mg B r + mg B (r + 1)) * D → r % 2 = 0
  dn : ∀ q, r = q + 1 → (mg B q + mg B r) * D ≤ 2 * N
  dne : ∀ q, r = q + 1 → (mg B q + mg B r) * D = 2 * N → r % 2 = 0

theorem mid_mono {B q q' : Nat} (hB : 0 < B) (h : q ≤ q') : mg B q + mg B (q + 1) ≤ mg B q' + mg B (q' + 1) :=
  Nat.add_le_add (mg_mono hB h) (mg_mono hB (by omega))

theorem IsRn.exact {B r D : Nat} (hB : 0 < B) (hD : 0 < D) : IsRn B (mg B r * D) D r := by
  have h1 := mg_lt_succ B r hB
  have e : 2 * (mg B r * D) = (mg B r + mg B r) * D := by rw [← Nat.mul_assoc, Nat.two_mul]
  refine ⟨?_, ?_, ?_, ?_⟩
  · rw [e]; exact Nat.mul_le_mul_right _ (by omega)
  · intro h; rw [e] at h; have := Nat.eq_of_mul_eq_mul_right hD h; omega
  · rintro q rfl
    have := mg_lt_succ B q hB
    rw [e]; exact Nat.mul_le_mul_right _ (by omega)
  · rintro q rfl h
    have := mg_lt_succ B q hB
    rw [e] at h; have := Nat.eq_of_mul_eq_mul_right hD h; omega

/-- A greater ratio has no lesser rung. -/
theorem IsRn.mono {B N D r N' D' r' : Nat} (hB : 0 < B) (hD : 0 < D) (hD' : 0 < D') (h : IsRn B N D r) (h' : IsRn B N' D' r') (le : N * D' ≤ N' * D) : r ≤ r' := by
  rcases Nat.lt_or_ge r' r with hlt | hge
  · exfalso
    obtain ⟨q, rfl⟩ : ∃ q, r = q + 1 := ⟨r - 1, by omega⟩
    have a := h.dn q rfl
    have b := h'.up
    have m := mid_mono hB (show r' ≤ q by omega)
    -- (mid q) D ≤ 2 N, 2 N' ≤ (mid r') D'
    have a' : (mg B q + mg B (q + 1)) * D * D' ≤ 2 * N * D' := Nat.mul_le_mul_right _ a
    have b' : 2 * N' * D ≤ (mg B r' + mg B (r' + 1)) * D' * D := Nat.mul_le_mul_right _ b
    have c' : (mg B r' + mg B (r' + 1)) * D' * D ≤ (mg B q + mg B (q + 1)) * D * D' := by
      rw [Nat.mul_assoc, Nat.mul_assoc, Nat.mul_comm D' D]; exact Nat.mul_le_mul_right _ m
    have d' : 2 * N * D' ≤ 2 * N' * D := by rw [Nat.mul_assoc, Nat.mul_assoc]; exact Nat.mul_le_mul_left _ le
    have e1 : (mg B q + mg B (q + 1)) * D * D' = 2 * N * D' := by omega
    have e2 : 2 * N' * D = (mg B r' + mg B (r' + 1)) * D' * D := by omega
    have f1 := h.dne q rfl (Nat.eq_of_mul_eq_mul_right hD' e1)
    have f2 := h'.upe (Nat.eq_of_mul_eq_mul_right hD e2)
    have e3 : (mg B r' + mg B (r' + 1)) * (D * D') = (mg B q + mg B (q + 1)) * (D * D') := by
      rw [← Nat.mul_assoc, ← Nat.mul_assoc, Nat.mul_assoc _ D D', Nat.mul_comm D D', ← Nat.mul_assoc, e1]
      omega
    have e4 := Nat.eq_of_mul_eq_mul_right (Nat.mul_pos hD hD') e3
    rcases Nat.lt_or_ge r' q with h1 | h1
    · have := mg_strict hB h1
      have := mg_strict hB (show r' + 1 < q + 1 by omega)
      omega
    · omega
  · exact hge

theorem IsRn.unique {B N D r r' : Nat} (hB : 0 < B) (hD : 0 < D) (h : IsRn B N D r) (h' : IsRn B N D r') : r = r' :=
  Nat.le_antisymm (h.mono hB hD hD h' (Nat.le_refl _)) (h'.mono hB hD hD h (Nat.le_refl _))

theorem IsRn.scale {B N D r : Nat} {c : Nat} (hc : 0 < c) : IsRn B (N * c) (D * c) r ↔ IsRn B N D r := by
  have e : ∀ x : Nat, x * (D * c) = x * D * c := fun x => by rw [Nat.mul_assoc]
  have e2 : 2 * (N * c) = 2 * N * c := by rw [Nat.mul_assoc]
  constructor
  · rintro ⟨a, b, d, f⟩
    refine ⟨?_, ?_, ?_, ?_⟩
    · rw [e, e2] at a; exact Nat.le_of_mul_le_mul_right a hc
    · intro h; apply b; rw [e, e2, h]
    · intro q hq; have := d q hq; rw [e, e2] at this; exact Nat.le_of_mul_le_mul_right this hc
    · intro q hq h; apply f q hq; rw [e, e2, h]
  · rintro ⟨a, b, d, f⟩
    refine ⟨?_, ?_, ?_, ?_⟩
    · rw [e, e2]; exact Nat.mul_le_mul_right _ a
    · intro h; rw [e, e2] at h; exact b (Nat.eq_of_mul_eq_mul_right hc h)
    · intro q hq; rw [e, e2]; exact Nat.mul_le_mul_right _ (d q hq)
    · intro q hq h; rw [e, e2] at h; exact f q hq (Nat.eq_of_mul_eq_mul_right hc h)

/-- The same ratio in other words. -/
theorem IsRn.cross {B N D N' D' r : Nat} (hD : 0 < D) (hD' : 0 < D') (h : IsRn B N D r) (e : N * D' = N' * D) : IsRn B N' D' r := by
  have h1 := (IsRn.scale (B := B) (r := r) (N := N) (D := D) hD').2 h
  rw [e, Nat.mul_comm D D'] at h1
  exact (IsRn.scale hD).1 h1

theorem IsRn.zero {B D : Nat} (hB : 0 < B) (hD : 0 < D) : IsRn B 0 D 0 := by
  have := IsRn.exact (B := B) (r := 0) hB hD
  rwa [mg_zero B hB, Nat.zero_mul] at this

/-- The rung of a floor: mg r D ≤ N < mg (r + 1) D; the nearest is r or r + 1. -/
theorem IsRn.of_floor {B N D r : Nat} (hB : 0 < B) (lo : mg B r * D ≤ N) (hi : N < mg B (r + 1) * D) (c : Bool)
    (hc : c = (decide ((mg B r + mg B (r + 1)) * D < 2 * N) || decide ((mg B r + mg B (r + 1)) * D = 2 * N) && decide (r % 2 = 1))) : IsRn B N D (r + c.toNat) := by
  have a1 := Nat.add_mul (mg B r) (mg B (r + 1)) D
  cases c with
  | false =>
    simp only [Bool.false_eq, Bool.or_eq_false_iff, decide_eq_false_iff_not, Bool.and_eq_false_iff] at hc
    obtain ⟨h1, h2⟩ := hc
    refine ⟨by simp; omega, ?_, ?_, ?_⟩
    · simp only [Bool.toNat_false, Nat.add_zero]; intro h; rcases h2 with h2 | h2 <;> omega
    · simp only [Bool.toNat_false, Nat.add_zero]
      rintro q rfl
      have := Nat.mul_le_mul_right D (Nat.le_of_lt (mg_lt_succ B q hB))
      rw [Nat.add_mul]; omega
    · simp only [Bool.toNat_false, Nat.add_zero]
      rintro q rfl h
      have hD : 0 < D := by
        rcases Nat.eq_zero_or_pos D with h0 | h0
        · subst h0; simp at hi
        · exact h0
      have := Nat.mul_lt_mul_of_pos_right (mg_lt_succ B q hB) hD
      rw [Nat.add_mul] at h; omega
  | true =>
    have hc' : (mg B r + mg B (r + 1)) * D < 2 * N ∨ ((mg B r + mg B (r + 1)) * D = 2 * N ∧ r % 2 = 1) := by simpa using hc.symm
    have hD : 0 < D := by
      rcases Nat.eq_zero_or_pos D with h0 | h0
      · subst h0; simp at hi
      · exact h0
    have g := Nat.mul_lt_mul_of_pos_right (mg_lt_succ B (r + 1) hB) hD
    refine ⟨?_, ?_, ?_, ?_⟩
    · simp only [Bool.toNat_true]; rw [Nat.add_mul]; omega
    · simp only [Bool.toNat_true]; rw [Nat.add_mul]; intro h; omega
    · simp only [Bool.toNat_true]; intro q hq; obtain rfl : r = q := by omega
      omega
    · simp only [Bool.toNat_true]; intro q hq h; obtain rfl : r = q := by omega
      omega
end GFl

/- Plain laws of binary floats: how a word is read, and which rung the nearest word has. No program. -/
namespace GFl
open Ieee

theorem cut_even (neg : Bool) (n drop : Nat) : Toward.even.cut neg n drop =
    n / 2 ^ drop + (decide (2 ^ drop < 2 * (n % 2 ^ drop)) || decide (2 ^ drop = 2 * (n % 2 ^ drop)) && decide (n / 2 ^ drop % 2 = 1)).toNat := by
  have big : ∀ k, n.log2 + 2 ≤ k → 2 * n < 2 ^ k := by
    intro k hk
    have h1 : n < 2 ^ (n.log2 + 1) := Nat.lt_log2_self
    have h2 : 2 ^ (n.log2 + 2) ≤ 2 ^ k := Nat.pow_le_pow_right (by omega) hk
    have h3 : 2 ^ (n.log2 + 2) = 2 ^ (n.log2 + 1) * 2 := Nat.pow_succ ..
    omega
  have zero : ∀ k, n.log2 + 2 ≤ k → n / 2 ^ k + (decide (2 ^ k < 2 * (n % 2 ^ k)) || decide (2 ^ k = 2 * (n % 2 ^ k)) && decide (n / 2 ^ k % 2 = 1)).toNat = 0 := by
    intro k hk
    have := big k hk
    have e1 : n / 2 ^ k = 0 := Nat.div_eq_of_lt (by omega)
    have e2 : n % 2 ^ k = n := Nat.mod_eq_of_lt (by omega)
    rw [e1, e2]
    have h1 : ¬ 2 ^ k < 2 * n := by omega
    simp [h1]
  have unf : ∀ g, g = 1 <<< min drop (n.log2 + 2) → Toward.even.cut neg n drop = n / g + (decide (g < 2 * (n % g)) || decide (g = 2 * (n % g)) && decide (n / g % 2 = 1)).toNat := by
    intro g hg
    subst hg
    unfold Toward.cut
    rfl
  rw [unf _ rfl, Nat.one_shiftLeft]
  rcases Nat.le_total drop (n.log2 + 2) with h | h
  · rw [Nat.min_eq_left h]
  · rw [Nat.min_eq_right h, zero _ (Nat.le_refl _), zero _ h]

/-- What is asked of a format. -/
structure Good (f : Format) : Prop where
  e : 2 ≤ f.exponentBits
  p : 2 ≤ f.fractionBits

theorem good_double : Good double := ⟨by decide, by decide⟩
section
variable {f : Format}

theorem binade_pos (f : Format) : 0 < f.binade := Nat.two_pow_pos _

theorem width_eq (f : Format) : 2 ^ f.width = 2 * f.signWeight := by
  unfold Format.width Format.signWeight
  rw [Nat.add_assoc, Nat.add_comm 1, Nat.pow_succ, Nat.mul_comm]

/-- Is the sign set? -/
def sgn (f : Format) (x : Nat) : Bool := decide (f.signWeight ≤ x)
def rung (f : Format) (x : Nat) : Nat := x % f.signWeight

theorem sgn_eq {x : Nat} (h : x < 2 ^ f.width) : (x / f.signWeight % 2 == 1) = sgn f x := by
  rw [width_eq] at h
  have hs : 0 < f.signWeight := Nat.two_pow_pos _
  unfold sgn
  by_cases h1 : f.signWeight ≤ x
  · have : x / f.signWeight = 1 := by
      have a : 1 ≤ x / f.signWeight := (Nat.one_le_div_iff hs).2 h1
      have b : x / f.signWeight < 2 := Nat.div_lt_of_lt_mul (by omega)
      omega
    simp [this, h1]
  · have : x / f.signWeight = 0 := Nat.div_eq_of_lt (by omega)
    simp [this, h1]

theorem word_split {x : Nat} (h : x < 2 ^ f.width) : x = f.word (sgn f x) (rung f x) := by
  rw [width_eq] at h
  unfold Format.word sgn rung
  by_cases h1 : f.signWeight ≤ x
  · simp only [h1, decide_true, if_true]
    rw [Nat.mod_eq_sub_mod h1, Nat.mod_eq_of_lt (by omega)]; omega
  · simp only [h1, decide_false, Bool.false_eq_true, if_false]
    rw [Nat.mod_eq_of_lt (by omega)]

theorem rung_word {s : Bool} {r : Nat} (h : r < f.signWeight) : rung f (f.word s r) = r := by
  unfold rung Format.word
  cases s
  · simp [Nat.mod_eq_of_lt h]
  · simp [Nat.mod_eq_of_lt h]

theorem sgn_word {s : Bool} {r : Nat} (h : r < f.signWeight) : sgn f (f.word s r) = s := by
  unfold sgn Format.word
  cases s
  · simp; omega
  · simp

/-- A finite word is read as its rung's magnitude. -/
theorem read_num {x : Nat} (h : x < 2 ^ f.width) (hr : rung f x < f.infRung) :
    ∃ m e, f.read x = .number (sgn f x) m e ∧ f.leastPlace ≤ e ∧ m * 2 ^ (e - f.leastPlace).toNat = mg f.binade (rung f x) ∧ m < 2 * f.binade ∧ (m = 0 ↔ rung f x = 0) := by
  unfold rung at hr
  unfold Format.read
  simp only [sgn_eq h]
  by_cases h1 : x % f.signWeight < f.binade
  · refine ⟨x % f.signWeight, f.leastPlace, by simp [h1], Int.le_refl _, ?_, by omega, Iff.rfl⟩
    unfold rung
    rw [mg_small h1]; simp
  · refine ⟨f.binade + x % f.signWeight % f.binade, f.leastPlace + (x % f.signWeight / f.binade - 1 : Nat), by simp [h1, hr], by omega, ?_, ?_, ?_⟩
    · have e : (f.leastPlace + (x % f.signWeight / f.binade - 1 : Nat) - f.leastPlace).toNat = x % f.signWeight / f.binade - 1 := by omega
      rw [e]; unfold rung mg; rw [if_neg h1]
    · have := Nat.mod_lt (x % f.signWeight) (binade_pos f); omega
    · have := binade_pos f; unfold rung; constructor <;> intro h2 <;> omega

theorem read_inf {x : Nat} (h : x < 2 ^ f.width) (hr : rung f x = f.infRung) (g : Good f) : f.read x = .infinity (sgn f x) := by
  unfold rung at hr
  have hb : f.binade ≤ f.infRung := by
    unfold Format.infRung
    have : 2 ^ 2 ≤ 2 ^ f.exponentBits := Nat.pow_le_pow_right (by omega) g.e
    exact Nat.le_mul_of_pos_left _ (by omega)
  unfold Format.read
  simp only [sgn_eq h, hr]
  rw [if_neg (by omega), if_neg (by omega)]; rfl

theorem read_nan {x : Nat} (h : x < 2 ^ f.width) (hr : f.infRung < rung f x) (g : Good f) : f.read x = .nan (sgn f x) (rung f x - f.infRung) := by
  have hb : f.binade ≤ f.infRung := by
    unfold Format.infRung
    have : 2 ^ 2 ≤ 2 ^ f.exponentBits := Nat.pow_le_pow_right (by omega) g.e
    exact Nat.le_mul_of_pos_left _ (by omega)
  unfold rung at hr ⊢
  unfold Format.read
  simp only [sgn_eq h]
  rw [if_neg (by omega), if_neg (by omega), if_neg (by omega)]

/-- The nearest word has the nearest rung, infinity's at the most. -/
theorem nearest_rn (g : Good f) (neg : Bool) (mag : Nat) (place : Int) :
    ∃ r, IsRn f.binade (mag * 2 ^ (place - f.leastPlace).toNat) (2 ^ (f.leastPlace - place).toNat) r ∧ f.nearest neg mag place = f.word neg (min r f.infRung) := by
  have hB := binade_pos f
  by_cases h0 : mag = 0
  · subst h0
    refine ⟨0, ?_, ?_⟩
    · rw [Nat.zero_mul]; exact IsRn.zero hB (Nat.two_pow_pos _)
    · simp [Format.nearest]
  have hlo := Nat.log2_self_le h0
  have hhi : mag < 2 ^ (mag.log2 + 1) := Nat.lt_log2_self
  have hBp : f.binade = 2 ^ f.fractionBits := rfl
  have h2B : 2 * f.binade = 2 ^ (f.fractionBits + 1) := by rw [Nat.pow_succ, hBp, Nat.mul_comm]
  have heven : f.binade % 2 = 0 := by
    have : f.fractionBits = (f.fractionBits - 1) + 1 := by have := g.p; omega
    rw [hBp, this, Nat.pow_succ]; omega
  unfold Format.nearest
  rw [if_neg h0]
  dsimp only
  by_cases hc : place + mag.log2 - f.fractionBits ≤ f.leastPlace
  · -- the last place is the least one
    rw [Int.max_eq_right hc]
    generalize hN : mag * 2 ^ (place - f.leastPlace).toNat = N
    generalize hd : (f.leastPlace - place).toNat = d
    rw [Nat.shiftLeft_eq, hN, cut_even]
    have hNlt : N < 2 * f.binade * 2 ^ d := by
      rw [h2B]
      subst hN
      by_cases hp : f.leastPlace ≤ place
      · have d0 : d = 0 := by omega
        subst d0
        have : mag * 2 ^ (place - f.leastPlace).toNat < 2 ^ (mag.log2 + 1) * 2 ^ (place - f.leastPlace).toNat := Nat.mul_lt_mul_of_pos_right hhi (Nat.two_pow_pos _)
        rw [← Nat.pow_add] at this
        have l : 2 ^ (mag.log2 + 1 + (place - f.leastPlace).toNat) ≤ 2 ^ (f.fractionBits + 1) := Nat.pow_le_pow_right (by omega) (by omega)
        omega
      · have e0 : (place - f.leastPlace).toNat = 0 := by omega
        rw [e0, Nat.pow_zero, Nat.mul_one, ← Nat.pow_add]
        exact Nat.lt_of_lt_of_le hhi (Nat.pow_le_pow_right (by omega) (by omega))
    have hD : 0 < 2 ^ d := Nat.two_pow_pos _
    generalize 2 ^ d = D at *
    have hq : N / D < 2 * f.binade := Nat.div_lt_of_lt_mul (by rw [Nat.mul_comm]; exact hNlt)
    have hdm := Nat.div_add_mod N D
    have hml := Nat.mod_lt N hD
    generalize hq' : N / D = q at *
    generalize N % D = t at *
    have m0 : mg f.binade q = q := by
      by_cases hs : q < f.binade
      · exact mg_small hs
      · have e : q = (0 + 1) * f.binade + (q - f.binade) := by omega
        rw [e, mg_eq _ 0 _ (by omega)]; omega
    have m1 : mg f.binade (q + 1) = q + 1 := by
      rw [mg_succ _ _ hB, m0]
      by_cases hs : q < f.binade
      · rw [ulp_small hs]
      · have e : q = (0 + 1) * f.binade + (q - f.binade) := by omega
        have := ulp_eq f.binade 0 (q - f.binade) (by omega)
        rw [← e] at this; rw [this]
    refine ⟨_, IsRn.of_floor (r := q) hB ?_ ?_ _ rfl, ?_⟩
    · rw [m0, Nat.mul_comm]; omega
    · rw [m1, Nat.succ_mul, Nat.mul_comm]; omega
    · have e1 : f.leastPlace - f.leastPlace = 0 := by omega
      rw [m0, m1, e1]
      have e2 : (q + (q + 1)) * D = 2 * (D * q) + D := by
        rw [← Nat.add_assoc, Nat.add_mul, ← Nat.two_mul, Nat.mul_assoc, Nat.mul_comm q D]; omega
      have e3 : (decide (D < 2 * t) || decide (D = 2 * t) && decide (q % 2 = 1)) = (decide ((q + (q + 1)) * D < 2 * N) || decide ((q + (q + 1)) * D = 2 * N) && decide (q % 2 = 1)) := by
        rw [e2]
        congr 1
        · simp only [decide_eq_decide]; omega
        · congr 1; simp only [decide_eq_decide]; omega
      rw [e3]; simp
  · -- a normal number
    have hc' : f.leastPlace < place + mag.log2 - f.fractionBits := by omega
    rw [Int.max_eq_left (by omega)]
    generalize hl : place + mag.log2 - f.fractionBits = last at *
    generalize hX : mag <<< (place - last).toNat = X
    rw [Nat.shiftLeft_eq] at hX
    generalize hd : (last - place).toNat = d
    obtain ⟨s, hs⟩ : ∃ s : Nat, (last - f.leastPlace).toNat = s + 1 := ⟨(last - f.leastPlace).toNat - 1, by omega⟩
    have hXlo : f.binade * 2 ^ d ≤ X := by
      rw [hBp, ← Nat.pow_add, ← hX]
      refine Nat.le_trans (m := 2 ^ mag.log2 * 2 ^ (place - last).toNat) ?_ (Nat.mul_le_mul_right _ hlo)
      rw [← Nat.pow_add]
      exact Nat.pow_le_pow_right (by omega) (by omega)
    have hXhi : X < 2 * f.binade * 2 ^ d := by
      rw [h2B, ← Nat.pow_add, ← hX]
      refine Nat.lt_of_lt_of_le (Nat.mul_lt_mul_of_pos_right hhi (Nat.two_pow_pos _)) ?_
      rw [← Nat.pow_add]
      exact Nat.pow_le_pow_right (by omega) (by omega)
    have cross : X * 2 ^ (s + 1) * 2 ^ (f.leastPlace - place).toNat = mag * 2 ^ (place - f.leastPlace).toNat * 2 ^ d := by
      rw [← hX, Nat.mul_assoc, Nat.mul_assoc, Nat.mul_assoc, ← Nat.pow_add, ← Nat.pow_add, ← Nat.pow_add]
      congr 2; omega
    rw [cut_even]
    have hD : 0 < 2 ^ d := Nat.two_pow_pos _
    have hcr : ∀ r, IsRn f.binade (X * 2 ^ (s + 1)) (2 ^ d) r → IsRn f.binade (mag * 2 ^ (place - f.leastPlace).toNat) (2 ^ (f.leastPlace - place).toNat) r :=
      fun r h => h.cross hD (Nat.two_pow_pos _) cross
    generalize 2 ^ d = D at *
    have hq1 : X / D < 2 * f.binade := Nat.div_lt_of_lt_mul (by rw [Nat.mul_comm]; exact hXhi)
    have hq0 : f.binade ≤ X / D := (Nat.le_div_iff_mul_le hD).2 hXlo
    have hdm := Nat.div_add_mod X D
    have hml := Nat.mod_lt X hD
    generalize hq' : X / D = q at *
    generalize X % D = t at *
    obtain ⟨u, rfl⟩ : ∃ u, q = f.binade + u := ⟨q - f.binade, by omega⟩
    have hrung : (s + 1) * f.binade + (f.binade + u) = (s + 1 + 1) * f.binade + u := by rw [Nat.succ_mul (s + 1)]; omega
    have m0 := mg_eq f.binade (s + 1) u (by omega)
    have m1 : mg f.binade ((s + 1 + 1) * f.binade + u + 1) = (f.binade + u + 1) * 2 ^ (s + 1) := by
      rw [mg_succ _ _ hB, m0, ulp_eq f.binade (s + 1) u (by omega), Nat.succ_mul (f.binade + u)]
    have hS : 0 < 2 ^ (s + 1) := Nat.two_pow_pos _
    have par : ((s + 1 + 1) * f.binade + u) % 2 = (f.binade + u) % 2 := by
      rw [Nat.add_mod, Nat.mul_mod, heven]; omega
    refine ⟨_, hcr _ (IsRn.of_floor (r := (s + 1 + 1) * f.binade + u) hB ?_ ?_ _ rfl), ?_⟩
    · rw [m0, Nat.mul_right_comm]; exact Nat.mul_le_mul_right _ (by rw [Nat.mul_comm]; omega)
    · rw [m1, Nat.mul_right_comm]; exact Nat.mul_lt_mul_of_pos_right (by rw [Nat.succ_mul, Nat.mul_comm]; omega) hS
    · rw [hs, m0, m1]
      have e0 : ((f.binade + u) * 2 ^ (s + 1) + (f.binade + u + 1) * 2 ^ (s + 1)) * D = ((f.binade + u + (f.binade + u + 1)) * D) * 2 ^ (s + 1) := by
        rw [← Nat.add_mul, Nat.mul_right_comm]
      have e1 : 2 * (X * 2 ^ (s + 1)) = 2 * X * 2 ^ (s + 1) := by rw [Nat.mul_assoc]
      have e2 : (f.binade + u + (f.binade + u + 1)) * D = 2 * (D * (f.binade + u)) + D := by
        rw [← Nat.add_assoc, Nat.add_mul _ 1, ← Nat.two_mul, Nat.mul_assoc, Nat.mul_comm (f.binade + u) D]; omega
      have e3 : (decide (D < 2 * t) || decide (D = 2 * t) && decide ((f.binade + u) % 2 = 1)) =
          (decide (((f.binade + u) * 2 ^ (s + 1) + (f.binade + u + 1) * 2 ^ (s + 1)) * D < 2 * (X * 2 ^ (s + 1))) || decide (((f.binade + u) * 2 ^ (s + 1) + (f.binade + u + 1) * 2 ^ (s + 1)) * D = 2 * (X * 2 ^ (s + 1))) && decide (((s + 1 + 1) * f.binade + u) % 2 = 1)) := by
        rw [e0, e1, par, e2]
        congr 1
        · simp only [decide_eq_decide]
          rw [Nat.mul_lt_mul_right hS]; omega
        · congr 1; simp only [decide_eq_decide]
          rw [Nat.mul_left_inj (by omega)]; omega
      rw [e3, ← Nat.add_assoc, hrung]
end
end GFl

/- Plain laws of binary floats: comparisons by places; sums and products as nearest rungs. No program. -/
namespace GFl
open Ieee

section
variable {f : Format}

/-- Is it none? -/
def nan (f : Format) (x : Nat) : Bool := decide (f.infRung < rung f x)
/-- The place: how many words lie between 0 and it, with its sign. -/
def pl (f : Format) (x : Nat) : Int := if sgn f x then -(rung f x : Int) else (rung f x : Int)
/-- The signed magnitude. -/
def sv (f : Format) (x : Nat) : Int := if sgn f x then -(mg f.binade (rung f x) : Int) else (mg f.binade (rung f x) : Int)

theorem signed_eq (s : Bool) (m u : Nat) : signed s m u = if s then -((m * 2 ^ u : Nat) : Int) else ((m * 2 ^ u : Nat) : Int) := by
  unfold signed; rw [Nat.shiftLeft_eq]

theorem signed_sv {x m : Nat} {e base : Int} (hb : base ≤ e) (hl : f.leastPlace ≤ base) (hm : m * 2 ^ (e - f.leastPlace).toNat = mg f.binade (rung f x)) :
    signed (sgn f x) m (e - base).toNat * (2 ^ (base - f.leastPlace).toNat : Nat) = sv f x := by
  rw [signed_eq]
  have h : m * 2 ^ (e - base).toNat * 2 ^ (base - f.leastPlace).toNat = mg f.binade (rung f x) := by
    rw [← hm, Nat.mul_assoc, ← Nat.pow_add]; congr 2; omega
  unfold sv
  cases sgn f x
  · simp only [Bool.false_eq_true, if_false]; rw [← h]; push_cast; rfl
  · simp only [if_true]; rw [← h]; push_cast; rw [Int.neg_mul]

theorem compare_mul (a b : Int) (c : Nat) (hc : 0 < c) : compare a b = compare (a * c) (b * c) := by
  have hc' : (0 : Int) < c := by omega
  rcases Int.lt_trichotomy a b with h | h | h
  · rw [Int.compare_eq_lt.2 h, Int.compare_eq_lt.2 (Int.mul_lt_mul_of_pos_right h hc')]
  · rw [Int.compare_eq_eq.2 h, Int.compare_eq_eq.2 (by rw [h])]
  · rw [Int.compare_eq_gt.2 h, Int.compare_eq_gt.2 (Int.mul_lt_mul_of_pos_right h hc')]

theorem sv_lt_iff {x y : Nat} : sv f x < sv f y ↔ pl f x < pl f y := by
  have hB := binade_pos f
  have h1 := @mg_lt_iff f.binade (rung f x) (rung f y) hB
  have h2 := @mg_lt_iff f.binade (rung f y) (rung f x) hB
  have h3 := le_mg f.binade (rung f x) hB
  have h4 := le_mg f.binade (rung f y) hB
  have h5 := @mg_lt_iff f.binade 0 (rung f y) hB
  have h6 := @mg_lt_iff f.binade 0 (rung f x) hB
  rw [mg_zero _ hB] at h5 h6
  unfold sv pl
  cases sgn f x <;> cases sgn f y <;> simp only [Bool.false_eq_true, if_false, if_true] <;> omega

theorem sv_inj {x y : Nat} : sv f x = sv f y ↔ pl f x = pl f y := by
  have := @sv_lt_iff f x y
  have := @sv_lt_iff f y x
  omega

theorem compare_sv {x y : Nat} : compare (sv f x) (sv f y) = compare (pl f x) (pl f y) := by
  rcases Int.lt_trichotomy (sv f x) (sv f y) with h | h | h
  · rw [Int.compare_eq_lt.2 h, Int.compare_eq_lt.2 (sv_lt_iff.1 h)]
  · rw [Int.compare_eq_eq.2 h, Int.compare_eq_eq.2 (sv_inj.1 h)]
  · rw [Int.compare_eq_gt.2 h, Int.compare_eq_gt.2 (sv_lt_iff.1 h)]

theorem infRung_pos (g : Good f) : 0 < f.infRung := by
  unfold Format.infRung
  have : 2 ^ 2 ≤ 2 ^ f.exponentBits := Nat.pow_le_pow_right (by omega) g.e
  exact Nat.mul_pos (by omega) (binade_pos f)

/-- How two words stand: by their places; not at all, if one is none. -/
theorem order_eq (g : Good f) {x y : Nat} (hx : x < 2 ^ f.width) (hy : y < 2 ^ f.width) :
    f.order x y = if nan f x || nan f y then none else some (compare (pl f x) (pl f y)) := by
  have hi := infRung_pos g
  unfold Format.order
  rcases Nat.lt_trichotomy (rung f x) f.infRung with hx1 | hx1 | hx1
  · obtain ⟨m, i, e1, li, hm, _, _⟩ := read_num hx hx1
    have nx : nan f x = false := by unfold nan; simp; omega
    rcases Nat.lt_trichotomy (rung f y) f.infRung with hy1 | hy1 | hy1
    · obtain ⟨n, j, e2, lj, hn, _, _⟩ := read_num hy hy1
      have ny : nan f y = false := by unfold nan; simp; omega
      rw [e1, e2, nx, ny]
      simp only [Datum.order, Bool.or_self, Bool.false_eq_true, if_false]
      rw [compare_mul _ _ (2 ^ (min i j - f.leastPlace).toNat) (Nat.two_pow_pos _), signed_sv (by omega) (by omega) hm, signed_sv (by omega) (by omega) hn, compare_sv]
    · have ny : nan f y = false := by unfold nan; simp; omega
      rw [e1, read_inf hy hy1 g, nx, ny]
      simp only [Datum.order, Bool.or_self, Bool.false_eq_true, if_false]
      congr 1
      unfold pl
      rw [hy1]
      cases sgn f y <;> cases sgn f x <;> simp only [Bool.false_eq_true, if_false, if_true] <;> symm <;> first | (rw [Int.compare_eq_lt]; omega) | (rw [Int.compare_eq_gt]; omega)
    · have ny : nan f y = true := by unfold nan; simp; omega
      rw [e1, read_nan hy hy1 g, ny]
      simp [Datum.order]
  · have nx : nan f x = false := by unfold nan; simp; omega
    rcases Nat.lt_trichotomy (rung f y) f.infRung with hy1 | hy1 | hy1
    · obtain ⟨n, j, e2, lj, hn, _, _⟩ := read_num hy hy1
      have ny : nan f y = false := by unfold nan; simp; omega
      rw [read_inf hx hx1 g, e2, nx, ny]
      simp only [Datum.order, Bool.or_self, Bool.false_eq_true, if_false]
      congr 1
      unfold pl
      rw [hx1]
      cases sgn f y <;> cases sgn f x <;> simp only [Bool.false_eq_true, if_false, if_true] <;> symm <;> first | (rw [Int.compare_eq_lt]; omega) | (rw [Int.compare_eq_gt]; omega)
    · have ny : nan f y = false := by unfold nan; simp; omega
      rw [read_inf hx hx1 g, read_inf hy hy1 g, nx, ny]
      simp only [Datum.order, Bool.or_self, Bool.false_eq_true, if_false]
      congr 1
      unfold pl
      rw [hx1, hy1]
      cases sgn f y <;> cases sgn f x <;> simp only [Bool.false_eq_true, if_false, if_true, Bool.toNat_true, Bool.toNat_false] <;> symm <;>
        first | (rw [Int.compare_eq_eq.2 rfl]; rfl) | (rw [Int.compare_eq_lt.2 (by omega)]; rfl) | (rw [Int.compare_eq_gt.2 (by omega)]; rfl)
    · have ny : nan f y = true := by unfold nan; simp; omega
      rw [read_inf hx hx1 g, read_nan hy hy1 g, ny]
      simp [Datum.order]
  · have nx : nan f x = true := by unfold nan; simp; omega
    rw [read_nan hx hx1 g, nx]
    simp [Datum.order]

theorem order_lt (g : Good f) {x y : Nat} (hx : x < 2 ^ f.width) (hy : y < 2 ^ f.width) :
    (f.order x y == some .lt) = (!nan f x && !nan f y && decide (pl f x < pl f y)) := by
  rw [order_eq g hx hy]
  cases nan f x <;> cases nan f y <;> simp
  rcases Int.lt_trichotomy (pl f x) (pl f y) with h | h | h
  · rw [Int.compare_eq_lt.2 h]; simp [h]
  · rw [Int.compare_eq_eq.2 h]; simp [h]
  · rw [Int.compare_eq_gt.2 h]; simp; omega

theorem order_gt (g : Good f) {x y : Nat} (hx : x < 2 ^ f.width) (hy : y < 2 ^ f.width) :
    (f.order x y == some .gt) = (!nan f x && !nan f y && decide (pl f y < pl f x)) := by
  rw [order_eq g hx hy]
  cases nan f x <;> cases nan f y <;> simp
  rcases Int.lt_trichotomy (pl f x) (pl f y) with h | h | h
  · rw [Int.compare_eq_lt.2 h]; simp; omega
  · rw [Int.compare_eq_eq.2 h]; simp [h]
  · rw [Int.compare_eq_gt.2 h]; simp [h]

theorem order_eqv (g : Good f) {x y : Nat} (hx : x < 2 ^ f.width) (hy : y < 2 ^ f.width) :
    (f.order x y == some .eq) = (!nan f x && !nan f y && decide (pl f x = pl f y)) := by
  rw [order_eq g hx hy]
  cases nan f x <;> cases nan f y <;> simp
  rcases Int.lt_trichotomy (pl f x) (pl f y) with h | h | h
  · rw [Int.compare_eq_lt.2 h]; simp; omega
  · rw [Int.compare_eq_eq.2 h]; simp [h]
  · rw [Int.compare_eq_gt.2 h]; simp; omega

theorem order_le (g : Good f) {x y : Nat} (hx : x < 2 ^ f.width) (hy : y < 2 ^ f.width) :
    (f.order x y == some .lt || f.order x y == some .eq) = (!nan f x && !nan f y && decide (pl f x ≤ pl f y)) := by
  rw [order_lt g hx hy, order_eqv g hx hy]
  cases nan f x <;> cases nan f y <;> simp
  rw [Bool.eq_iff_iff]; simp; omega

theorem order_ge (g : Good f) {x y : Nat} (hx : x < 2 ^ f.width) (hy : y < 2 ^ f.width) :
    (f.order x y == some .gt || f.order x y == some .eq) = (!nan f x && !nan f y && decide (pl f y ≤ pl f x)) := by
  rw [order_gt g hx hy, order_eqv g hx hy]
  cases nan f x <;> cases nan f y <;> simp
  rw [Bool.eq_iff_iff]; simp; omega

theorem order_ne (g : Good f) {x y : Nat} (hx : x < 2 ^ f.width) (hy : y < 2 ^ f.width) :
    (f.order x y != some .eq) = (nan f x || nan f y || decide (pl f x ≠ pl f y)) := by
  rw [bne, order_eqv g hx hy]
  cases nan f x <;> cases nan f y <;> simp

/-- The sum of two finite words. -/
theorem add_fin (g : Good f) {x y : Nat} (hx : x < 2 ^ f.width) (hy : y < 2 ^ f.width) (hx1 : rung f x < f.infRung) (hy1 : rung f y < f.infRung) :
    ∃ r, IsRn f.binade (sv f x + sv f y).natAbs 1 r ∧
      f.add x y = some (f.word (if sv f x + sv f y = 0 then sgn f x && sgn f y else decide (sv f x + sv f y < 0)) (min r f.infRung)) := by
  obtain ⟨m, i, e1, li, hm, _, _⟩ := read_num hx hx1
  obtain ⟨n, j, e2, lj, hn, _, _⟩ := read_num hy hy1
  unfold Format.add
  rw [e1, e2]
  simp only [Datum.sum, Option.map_some, Format.write]
  have a1 := signed_sv (f := f) (x := x) (m := m) (e := i) (base := min i j) (by omega) (by omega) hm
  have a2 := signed_sv (f := f) (x := y) (m := n) (e := j) (base := min i j) (by omega) (by omega) hn
  have hl : f.leastPlace ≤ min i j := by omega
  generalize min i j = base at *
  generalize signed (sgn f x) m (i - base).toNat = S at *
  generalize signed (sgn f y) n (j - base).toNat = T at *
  have hc : 0 < 2 ^ (base - f.leastPlace).toNat := Nat.two_pow_pos _
  have htot : (S + T) * (2 ^ (base - f.leastPlace).toNat : Nat) = sv f x + sv f y := by rw [Int.add_mul, a1, a2]
  obtain ⟨r, hr, hw⟩ := nearest_rn g (if S + T = 0 then sgn f x && sgn f y else decide (S + T < 0)) (S + T).natAbs base
  refine ⟨r, ?_, ?_⟩
  · have e3 : (f.leastPlace - base).toNat = 0 := by omega
    have e4 : (S + T).natAbs * 2 ^ (base - f.leastPlace).toNat = (sv f x + sv f y).natAbs := by
      rw [← htot, Int.natAbs_mul]; rfl
    rw [e3, e4] at hr
    exact hr
  · rw [hw]
    generalize 2 ^ (base - f.leastPlace).toNat = c at *
    have hc' : (0 : Int) < c := by omega
    have z : S + T = 0 ↔ sv f x + sv f y = 0 := by
      rw [← htot]; constructor
      · intro h; rw [h]; simp
      · intro h; rcases Int.mul_eq_zero.1 h with h | h
        · exact h
        · omega
    have l : S + T < 0 ↔ sv f x + sv f y < 0 := by
      rw [← htot]; constructor
      · intro h; exact Int.mul_neg_of_neg_of_pos h hc'
      · intro h
        by_cases h1 : S + T < 0
        · exact h1
        · have := Int.mul_nonneg (Int.not_lt.1 h1) (Int.le_of_lt hc'); omega
    simp only [z, l]

/-- The product of two finite words. -/
theorem mul_fin (g : Good f) {x y : Nat} (hx : x < 2 ^ f.width) (hy : y < 2 ^ f.width) (hx1 : rung f x < f.infRung) (hy1 : rung f y < f.infRung) (hL : f.leastPlace ≤ 0) :
    ∃ r, IsRn f.binade (mg f.binade (rung f x) * mg f.binade (rung f y)) (2 ^ (-f.leastPlace).toNat) r ∧
      f.mul x y = some (f.word (sgn f x ^^ sgn f y) (min r f.infRung)) := by
  obtain ⟨m, i, e1, li, hm, _, _⟩ := read_num hx hx1
  obtain ⟨n, j, e2, lj, hn, _, _⟩ := read_num hy hy1
  unfold Format.mul
  rw [e1, e2]
  simp only [Datum.product, Option.map_some, Format.write]
  obtain ⟨r, hr, hw⟩ := nearest_rn g (sgn f x ^^ sgn f y) (m * n) (i + j)
  refine ⟨r, hr.cross (Nat.two_pow_pos _) (Nat.two_pow_pos _) ?_, by rw [hw]⟩
  rw [← hm, ← hn]
  have e : m * 2 ^ (i - f.leastPlace).toNat * (n * 2 ^ (j - f.leastPlace).toNat) = m * n * (2 ^ (i - f.leastPlace).toNat * 2 ^ (j - f.leastPlace).toNat) := by
    rw [Nat.mul_assoc, Nat.mul_assoc m n]; congr 1; rw [Nat.mul_left_comm]
  rw [e]
  generalize m * n = q
  rw [Nat.mul_assoc q, Nat.mul_assoc q, ← Nat.pow_add, ← Nat.pow_add, ← Nat.pow_add]
  congr 2; omega

end
end GFl

/- Plain laws of float64's words, with their numerals. No program. -/
namespace GFl
open Ieee

theorem d_sw : double.signWeight = 9223372036854775808 := by decide
theorem d_inf : double.infRung = 9218868437227405312 := by decide
theorem d_b : double.binade = 4503599627370496 := by decide
theorem d_l : double.leastPlace = -1074 := by decide
theorem d_w : 2 ^ double.width = 18446744073709551616 := by decide
/-- Is it a float64's word? -/
def W64 (x : Nat) : Prop := x < 2 ^ double.width
theorem W64.lt {x : Nat} (h : W64 x) : x < 18446744073709551616 := by unfold W64 at h; rwa [d_w] at h
theorem W64.mk {x : Nat} (h : x < 18446744073709551616) : W64 x := by unfold W64; rwa [d_w]

/-- The rung: the word without its sign. -/
def rg (x : Nat) : Nat := rung double x
/-- The sign. -/
def neg (x : Nat) : Bool := sgn double x
/-- The place. -/
def plc (x : Nat) : Int := pl double x
/-- No number. -/
def isn (x : Nat) : Bool := nan double x
/-- The magnitude, in units of 2^-1074, with its sign. -/
def val (x : Nat) : Int := sv double x

theorem rg_eq (x : Nat) : rg x = x % 9223372036854775808 := by unfold rg rung; rw [d_sw]
theorem neg_eq (x : Nat) : neg x = decide (9223372036854775808 ≤ x) := by unfold neg sgn; rw [d_sw]
theorem isn_eq (x : Nat) : isn x = decide (9218868437227405312 < rg x) := by unfold isn nan rg; rw [d_inf]
theorem plc_eq (x : Nat) : plc x = if neg x then -(rg x : Int) else (rg x : Int) := rfl
theorem val_eq (x : Nat) : val x = if neg x then -(mg double.binade (rg x) : Int) else (mg double.binade (rg x) : Int) := rfl

theorem o_lt {x y : Nat} (hx : W64 x) (hy : W64 y) : (double.order x y == some .lt) = (!isn x && !isn y && decide (plc x < plc y)) := order_lt good_double hx hy
theorem o_gt {x y : Nat} (hx : W64 x) (hy : W64 y) : (double.order x y == some .gt) = (!isn x && !isn y && decide (plc y < plc x)) := order_gt good_double hx hy
theorem o_eq {x y : Nat} (hx : W64 x) (hy : W64 y) : (double.order x y == some .eq) = (!isn x && !isn y && decide (plc x = plc y)) := order_eqv good_double hx hy
theorem o_le {x y : Nat} (hx : W64 x) (hy : W64 y) : (double.order x y == some .lt || double.order x y == some .eq) = (!isn x && !isn y && decide (plc x ≤ plc y)) := order_le good_double hx hy
theorem o_ge {x y : Nat} (hx : W64 x) (hy : W64 y) : (double.order x y == some .gt || double.order x y == some .eq) = (!isn x && !isn y && decide (plc y ≤ plc x)) := order_ge good_double hx hy
theorem o_ne {x y : Nat} (hx : W64 x) (hy : W64 y) : (double.order x y != some .eq) = (isn x || isn y || decide (plc x ≠ plc y)) := order_ne good_double hx hy

theorem o_ne_self {x : Nat} (hx : W64 x) : (double.order x x != some .eq) = isn x := by rw [o_ne hx hx]; simp
theorem o_eq_self {x : Nat} (hx : W64 x) : (double.order x x == some .eq) = !isn x := by rw [o_eq hx hx]; simp

theorem xor_top {n y : Nat} (h : y < 2 ^ n) : y ^^^ 2 ^ n = y + 2 ^ n := by
  apply Nat.eq_of_testBit_eq
  intro i
  rw [Nat.testBit_xor, Nat.testBit_two_pow, Nat.add_comm]
  rcases Nat.lt_trichotomy i n with hi | hi | hi
  · rw [Nat.testBit_two_pow_add_gt hi]
    have : ¬ n = i := by omega
    simp [this]
  · subst hi
    rw [Nat.testBit_two_pow_add_eq, Nat.testBit_lt_two_pow h]; simp
  · have h1 : 2 ^ (n + 1) ≤ 2 ^ i := Nat.pow_le_pow_right (by omega) (by omega)
    have h2 : 2 ^ (n + 1) = 2 ^ n * 2 := Nat.pow_succ ..
    have : ¬ n = i := by omega
    rw [Nat.testBit_lt_two_pow (x := y) (by omega), Nat.testBit_lt_two_pow (x := 2 ^ n + y) (by omega)]
    simp [this]

/-- The word with its sign turned. -/
def fneg (x : Nat) : Nat := x ^^^ 2 ^ 63
theorem fneg_eq {x : Nat} (h : W64 x) : fneg x = if neg x then x - 9223372036854775808 else x + 9223372036854775808 := by
  have h := h.lt
  rw [neg_eq]
  unfold fneg
  by_cases h1 : 9223372036854775808 ≤ x
  · simp only [h1, decide_true, if_true]
    have h3 : x - 9223372036854775808 < 2 ^ 63 := by omega
    have h2 : x = (x - 9223372036854775808) ^^^ 2 ^ 63 := by rw [xor_top h3]; omega
    have h4 : x ^^^ 2 ^ 63 = ((x - 9223372036854775808) ^^^ 2 ^ 63) ^^^ 2 ^ 63 := by rw [← h2]
    rw [h4, Nat.xor_assoc, Nat.xor_self, Nat.xor_zero]
  · simp only [h1, decide_false, Bool.false_eq_true, if_false]
    exact xor_top (by omega)
theorem fneg_w {x : Nat} (h : W64 x) : W64 (fneg x) := by
  rw [fneg_eq h, neg_eq]
  have := h.lt
  refine W64.mk ?_
  by_cases h1 : 9223372036854775808 ≤ x <;> simp [h1] <;> omega
theorem fneg_rg {x : Nat} (h : W64 x) : rg (fneg x) = rg x := by
  have hl := h.lt
  rw [fneg_eq h, neg_eq, rg_eq, rg_eq]
  by_cases h1 : 9223372036854775808 ≤ x <;> simp only [h1, decide_true, decide_false, if_true, Bool.false_eq_true, if_false] <;> omega
theorem fneg_neg {x : Nat} (h : W64 x) : neg (fneg x) = !neg x := by
  have hl := h.lt
  rw [fneg_eq h, neg_eq, neg_eq]
  by_cases h1 : 9223372036854775808 ≤ x
  · simp only [h1, decide_true, if_true, Bool.not_true, decide_eq_false_iff_not]; omega
  · simp only [h1, decide_false, Bool.false_eq_true, if_false, Bool.not_false, decide_eq_true_eq]; omega
theorem fneg_isn {x : Nat} (h : W64 x) : isn (fneg x) = isn x := by rw [isn_eq, isn_eq, fneg_rg h]
theorem fneg_plc {x : Nat} (h : W64 x) : plc (fneg x) = -plc x := by
  rw [plc_eq, plc_eq, fneg_rg h, fneg_neg h]; cases neg x <;> simp
theorem fneg_val {x : Nat} (h : W64 x) : val (fneg x) = -val x := by
  rw [val_eq, val_eq, fneg_rg h, fneg_neg h]; cases neg x <;> simp

/-- Two words of one sign and rung are one. -/
theorem w64_ext {x y : Nat} (hx : W64 x) (hy : W64 y) (h1 : neg x = neg y) (h2 : rg x = rg y) : x = y := by
  have := hx.lt; have := hy.lt
  rw [neg_eq, neg_eq, decide_eq_decide] at h1
  rw [rg_eq, rg_eq] at h2
  omega
/-- The word of a sign and a rung. -/
def wd (s : Bool) (r : Nat) : Nat := double.word s r
theorem wd_eq (s : Bool) (r : Nat) : wd s r = if s then 9223372036854775808 + r else r := by unfold wd Format.word; rw [d_sw]
theorem wd_rg {s : Bool} {r : Nat} (h : r < 9223372036854775808) : rg (wd s r) = r := rung_word (by rw [d_sw]; exact h)
theorem wd_neg {s : Bool} {r : Nat} (h : r < 9223372036854775808) : neg (wd s r) = s := sgn_word (by rw [d_sw]; exact h)
theorem wd_w {s : Bool} {r : Nat} (h : r < 9223372036854775808) : W64 (wd s r) := W64.mk (by rw [wd_eq]; cases s <;> simp <;> omega)
theorem w64_wd {x : Nat} (h : W64 x) : x = wd (neg x) (rg x) := word_split h
theorem w_const {x : Nat} (h : decide (x < 18446744073709551616) = true) : W64 x := W64.mk (of_decide_eq_true h)
theorem plc_lt_zero {x : Nat} : plc x < 0 ↔ neg x = true ∧ 0 < rg x := by rw [plc_eq]; cases neg x <;> simp <;> omega
theorem plc_zero {x : Nat} : plc x = 0 ↔ rg x = 0 := by rw [plc_eq]; cases neg x <;> simp
theorem plc_natAbs (x : Nat) : (plc x).natAbs = rg x := by rw [plc_eq]; cases neg x <;> simp
theorem isn0 : isn 0 = false := by decide
theorem plc0 : plc 0 = 0 := by decide
theorem rg_lt (x : Nat) : rg x < 9223372036854775808 := by rw [rg_eq]; omega
end GFl

/- Words of this session's walks: floats' operations, the functions of math that have no Go text. -/
namespace Go.Proofs.YtaedkekjekbjmaaDoor
open Go Go.RowKit
set_option maxRecDepth 100000

/-- Nothing but draws. -/
structure Dr (w w' : World) : Prop where mk :: (out : ∃ n, w' = w.drewN n)
theorem Dr.refl (w : World) : Dr w w := ⟨⟨0, rfl⟩⟩
theorem Dr.n (w : World) (n : Nat) : Dr w (w.drewN n) := ⟨⟨n, rfl⟩⟩
theorem Dr.step {w w' : World} (h : Dr w w') (n : Nat) : Dr w (w'.drewN n) := by
  obtain ⟨m, rfl⟩ := h
  exact ⟨⟨m + n, World.drewN_drewN ..⟩⟩
theorem Dr.trans {w w1 w2 : World} (h : Dr w w1) (h' : Dr w1 w2) : Dr w w2 := by
  obtain ⟨m, rfl⟩ := h'
  exact h.step m
theorem Dr.below {w w' : World} (h : Dr w w') : Below w.heap.size w w' := by
  obtain ⟨n, rfl⟩ := h
  induction n with
  | zero => exact Below.refl _ _
  | succ n ih => rw [← World.drew_drewN]; exact ih.drew

/-- What a float's operation gives: the bits that the standard says; where it says none: some NaN. -/
def FR (k : FloatKind) (o : Option Nat) (r : Nat) : Prop := match o with
  | some z => r = z
  | none => k.format.infRung < r % k.format.signWeight ∧ r < 2 ^ k.format.width

/-- The operations of arithmetic. -/
def arith : BinOp → Bool
  | .add | .sub | .mul | .quo => true
  | _ => false

theorem run_arith {P : Program} (op : BinOp) (t : TypeId) (k : FloatKind) (x y : Nat) (w : World) (h : arith op = true) :
    ∃ r n, FR k (floatBits op k x y) r ∧ (binOp op t (.float k x) (.float k y)).run P w = .ok (.float k r) (w.drewN n) := by
  cases hb : floatBits op k x y with
  | some z =>
    exact ⟨z, 0, rfl, run_float_arith w op t k x y z hb⟩
  | none =>
    have e : (binOp op t (.float k x) (.float k y)).run P w = .ok (.float k ((Question.nanBits k x y).cut (w.tape w.drawn (.nanBits k x y)))) (w.drewN 1) := by
      unfold floatBits at hb
      cases op <;> simp only [arith, Bool.false_eq_true] at h <;> simp only at hb <;> simp [binOp, Op.floatArith, hb, choose, Sem.run, Question.forced, World.drewN]
    refine ⟨_, 1, ?_, e⟩
    generalize w.tape w.drawn (.nanBits k x y) = t
    cases k
    · have e1 : FloatKind.f32.format.infRung = 2139095040 := by decide
      have e2 : FloatKind.f32.format.signWeight = 2147483648 := by decide
      have e3 : 2 ^ FloatKind.f32.format.width = 4294967296 := by decide
      simp only [FR, Question.cut, e1, e2, e3]
      have h2 : t % 2 = 0 ∨ t % 2 = 1 := by omega
      rcases h2 with h2 | h2 <;> rw [h2] <;> omega
    · have e1 : FloatKind.f64.format.infRung = 9218868437227405312 := by decide
      have e2 : FloatKind.f64.format.signWeight = 9223372036854775808 := by decide
      have e3 : 2 ^ FloatKind.f64.format.width = 18446744073709551616 := by decide
      simp only [FR, Question.cut, e1, e2, e3]
      have h2 : t % 2 = 0 ∨ t % 2 = 1 := by omega
      rcases h2 with h2 | h2 <;> rw [h2] <;> omega

theorem run_f64bits (b : Nat) (w : World) : (callFunc 40 #[.float .f64 b]).run Tryd.prog w = .ok (.value (.int .u64 b)) w := by
  rw [run_callFunc_extern (P := Tryd.prog) (f := 40) (fn := Tryd.f40) (e := Extern.MathFloatBits.float64bits) (by kernel_rfl) (by kernel_rfl) (by kernel_rfl) (by kernel_rfl) (by kernel_rfl)]
  rfl
theorem run_f64frombits (n : Int) (w : World) : (callFunc 42 #[.int .u64 n]).run Tryd.prog w = .ok (.value (.float .f64 n.toNat)) w := by
  rw [run_callFunc_extern (P := Tryd.prog) (f := 42) (fn := Tryd.f42) (e := Extern.MathFloatBits.float64frombits) (by kernel_rfl) (by kernel_rfl) (by kernel_rfl) (by kernel_rfl) (by kernel_rfl)]
  rfl

theorem run_neg_f64 {P : Program} (x : Nat) (w : World) : (Op.unary .neg (.float .f64 x)).run P w = .ok (.float .f64 (GFl.fneg x)) w := rfl

section
open GFl
theorem t_lt {x y : Nat} (hx : W64 x) (hy : W64 y) : (FloatKind.f64.format.order x y == some .lt) = (!isn x && !isn y && decide (plc x < plc y)) := o_lt hx hy
theorem t_gt {x y : Nat} (hx : W64 x) (hy : W64 y) : (FloatKind.f64.format.order x y == some .gt) = (!isn x && !isn y && decide (plc y < plc x)) := o_gt hx hy
theorem t_eq {x y : Nat} (hx : W64 x) (hy : W64 y) : (FloatKind.f64.format.order x y == some .eq) = (!isn x && !isn y && decide (plc x = plc y)) := o_eq hx hy
theorem t_le {x y : Nat} (hx : W64 x) (hy : W64 y) : (FloatKind.f64.format.order x y == some .lt || FloatKind.f64.format.order x y == some .eq) = (!isn x && !isn y && decide (plc x ≤ plc y)) := o_le hx hy
theorem t_ge {x y : Nat} (hx : W64 x) (hy : W64 y) : (FloatKind.f64.format.order x y == some .gt || FloatKind.f64.format.order x y == some .eq) = (!isn x && !isn y && decide (plc y ≤ plc x)) := o_ge hx hy
theorem t_ne {x y : Nat} (hx : W64 x) (hy : W64 y) : (FloatKind.f64.format.order x y != some .eq) = (isn x || isn y || decide (plc x ≠ plc y)) := o_ne hx hy
theorem t_ne_self {x : Nat} (hx : W64 x) : (FloatKind.f64.format.order x x != some .eq) = isn x := o_ne_self hx
end

theorem ret_int {k : IntKind} {a b : Int} (h : a = b) : Ending.returned (.int k a) = .returned (.int k b) := by rw [h]
theorem ret_bool {a b : Bool} (h : a = b) : Ending.returned (.bool a) = .returned (.bool b) := by rw [h]
theorem ret_float {k : FloatKind} {a b : Nat} (h : a = b) : Ending.returned (.float k a) = .returned (.float k b) := by rw [h]
theorem ret_int_bool {k : IntKind} {a b : Int} {c d : Bool} (h : a = b) (h' : c = d) : Ending.returned (.tuple #[.int k a, .bool c]) = .returned (.tuple #[.int k b, .bool d]) := by rw [h, h']
theorem ret_float_bool {k : FloatKind} {a b : Nat} {c d : Bool} (h : a = b) (h' : c = d) : Ending.returned (.tuple #[.float k a, .bool c]) = .returned (.tuple #[.float k b, .bool d]) := by rw [h, h']
theorem ret_float_int {k : FloatKind} {q : IntKind} {a b : Nat} {c d : Int} (h : a = b) (h' : c = d) : Ending.returned (.tuple #[.float k a, .int q c]) = .returned (.tuple #[.float k b, .int q d]) := by rw [h, h']
theorem ret_int_int {k q : IntKind} {a b c d : Int} (h : a = b) (h' : c = d) : Ending.returned (.tuple #[.int k a, .int q c]) = .returned (.tuple #[.int k b, .int q d]) := by rw [h, h']

section
variable {P : Program} {ops : Array Oper} {Q : Exit → Act → World → Prop} {a : Act} {w : World} {rest : List Oper}
/-- A float's sum, difference, product or quotient: whatever bits it gives. -/
theorem wp_arith {dst : Option Tmp} {op : BinOp} {t t' ty : TypeId} {x y : Operand} {pos : String} {after : Array Edge} (k : FloatKind) (X Y : Nat)
    (hx : a.eval x = .float k X) (hy : a.eval y = .float k Y) (ha : arith op = true)
    (h : ∀ r n, FR k (floatBits op k X Y) r → wpList P ops Q rest (a.put dst (.float k r)) (w.drewN n)) :
    wpList P ops Q (⟨dst, .binOp op t x y t', ty, pos, after, none⟩ :: rest) a w := by
  refine wpList_plain rfl fun K hK => ?_
  obtain ⟨r, n, hr, e⟩ := run_arith (P := P) op t k X Y w ha
  have := hK _ _ (h r n hr)
  unfold Oper.wp
  have e2 : (execOp a.eval ⟨dst, .binOp op t x y t', ty, pos, after, none⟩).run P w = .ok (.value (.float k r)) (w.drewN n) := by
    have eg : eqGuard op t x y (.float k X) (.float k Y) = pure () := by cases op <;> first | rfl | simp [arith] at ha
    simp only [execOp, hx, hy, eg]
    simp [e, Result.andThen]
  rw [e2]
  exact this
end
end Go.Proofs.YtaedkekjekbjmaaDoor

/- Words of memory: what has not turned below a block; a block that is known whole. -/
namespace Go.Proofs.YtaedkekjekbjmaaDoor
open Go Go.RowKit
theorem bl_alloc {w W : World} (h : Below w.heap.size w W) (o : Obj) : Below w.heap.size w (W.alloc o) := h.alloc h.size o
theorem bl_drewN {B : Nat} {w W : World} (h : Below B w W) (n : Nat) : Below B w (W.drewN n) := ⟨h.os, h.tape, h.output, h.size, h.block⟩
theorem bl_drew {B : Nat} {w W : World} (h : Below B w W) : Below B w W.drew := ⟨h.os, h.tape, h.output, h.size, h.block⟩
theorem bl_set {B : Nat} {w W : World} (h : Below B w W) {p : Addr} (v : Value) (hp : B ≤ p.block) : Below B w (W.setCell p v) := h.setCell hp v
theorem bl_then {w W W' : World} (h : Below w.heap.size w W) (h' : Below W.heap.size W W') : Below w.heap.size w W' := h.trans (h'.mono h.size)
theorem kb_new {w w1 : World} {o : Obj} (h : Below (w.alloc o).heap.size (w.alloc o) w1) : w1.heap[w.heap.size]? = some o := by
  have h1 : w.heap.size < (w.alloc o).heap.size := by
    show w.heap.size < (w.heap.push o).size
    rw [Array.size_push]; omega
  rw [h.block w.heap.size h1]
  show (w.heap.push o)[w.heap.size]? = some o
  exact Array.getElem?_push_size
theorem kb_keep {w w1 : World} {b : Nat} {o : Obj} (h : Below w.heap.size w w1) (hb : w.heap[b]? = some o) : w1.heap[b]? = some o := by
  rw [h.block b (Array.getElem?_eq_some_iff.1 hb).1]
  exact hb
theorem kb_alloc {w : World} {b : Nat} {o o' : Obj} (hb : w.heap[b]? = some o) : (w.alloc o').heap[b]? = some o := by
  have := (Array.getElem?_eq_some_iff.1 hb).1
  rw [Below.heap_alloc _ _ _ this]; exact hb
theorem kb_lt {w : World} {b : Nat} {o : Obj} (hb : w.heap[b]? = some o) : b < w.heap.size := (Array.getElem?_eq_some_iff.1 hb).1
theorem kb_cell {w : World} {b i : Nat} {c : Array Value} {t : TypeId} {fz : Nat × Nat} {v : Value} (hb : w.heap[b]? = some (.cells c t fz)) (hv : c[i]? = some v) : w.cell? ⟨b, i, none⟩ = some v := by
  simp [World.cell?, hb, hv]
theorem kb_frozen {w : World} {b : Nat} {c : Array Value} {t : TypeId} (hb : w.heap[b]? = some (.cells c t (0, 0))) (i : Nat) : w.frozen? ⟨b, i, none⟩ = false := by
  simp [World.frozen?, hb]
theorem run_store_float (P : Program) (w : World) (a : Addr) (m : Mode) (k : FloatKind) (b : Nat) : (store a (.float k b) m).run P w = stored P w a (.float k b) m := run_store P w a _ m rfl
end Go.Proofs.YtaedkekjekbjmaaDoor

/- girderref02's numbers in memory: the limbs; a product, a sign. -/
namespace Go.Proofs.YtaedkekjekbjmaaDoor
open Go Go.RowKit Nv
open Go.Proofs.YtaedkekjekbjmaaDoorW.PrintWords (Kd)
open XRf
set_option maxRecDepth 100000

/-- A slice of limbs that is a number. -/
def Ld (w : World) (v : Value) (n : Int) : Prop := ∃ A c l, v = .slice A l.length c ∧ l.length ≤ c ∧ Kd.C (Kd.int .u64) w A l.length l ∧ Nl l ∧ lv l = n
/-- Not too great for this machine. -/
def Sl (n : Int) : Prop := n < ls 1000000
theorem llen_of {l : List Int} (h : Nl l) (hs : Sl (lv l)) : l.length ≤ 1000000 := h.len hs
theorem Ld.below {w w1 : World} {v : Value} {n : Int} (h : Ld w v n) (hb : Below w.heap.size w w1) : Ld w1 v n := by
  obtain ⟨A, c, l, rfl, hl, hC, hN, hn⟩ := h
  exact ⟨A, c, l, rfl, hl, Kd.C_below hC hb, hN, hn⟩
theorem Ld.nonneg {w : World} {v : Value} {n : Int} (h : Ld w v n) : 0 ≤ n := by
  obtain ⟨A, c, l, rfl, hl, hC, hN, rfl⟩ := h
  exact lv_nonneg hN.1
theorem Ld.slice {w : World} {v : Value} {n : Int} (h : Ld w v n) : ∃ A m c, v = .slice A m c := by
  obtain ⟨A, c, l, rfl, _⟩ := h
  exact ⟨A, _, c, rfl⟩
/-- New memory, from a block on. -/
def Lo (w : World) (B : Nat) (v : Value) (n : Int) : Prop := ∃ l, w.ownsRow B 62 1 v l.length (Go.Proofs.YtaedkekjekbjmaaDoorW.PrintWords.encs (Value.int .u64) l) ∧ Nl l ∧ lv l = n
def LPost (n : Int) (w : World) (e : Ending) (w' : World) : Prop := ∃ v, e = .returned v ∧ Lo w' w.heap.size v n ∧ Below w.heap.size w w'
theorem Lo.ld {w : World} {B : Nat} {v : Value} {n : Int} (h : Lo w B v n) : Ld w v n := by
  obtain ⟨l, ho, hN, hn⟩ := h
  obtain ⟨A, c, e, hl, hr⟩ := Go.Proofs.YtaedkekjekbjmaaDoorW.PrintWords.own_reads_of_le (enc := Value.int .u64) (d := (0 : Int)) ho
  exact ⟨A, c, l, e, hl, Kd.C_of_reads hr, hN, hn⟩
theorem Lo.move {w w1 : World} {B : Nat} {v : Value} {n : Int} (h : Lo w B v n) (hm : ∀ k, v.ownBlock = some k → w1.heap[k]? = w.heap[k]?) : Lo w1 B v n := by
  obtain ⟨l, ho, hN, hn⟩ := h
  exact ⟨l, Go.Proofs.YtaedkekjekbjmaaDoorW.PrintWords.own_move ho hm, hN, hn⟩
theorem Lo.ge {w : World} {B : Nat} {v : Value} {n : Int} (h : Lo w B v n) (k : Nat) (hk : v.ownBlock = some k) : B ≤ k := by
  obtain ⟨l, ho, hN, hn⟩ := h
  exact Go.Proofs.YtaedkekjekbjmaaDoorW.PrintWords.own_base ho k hk
theorem lo_of {w : World} {b : Nat} {ok : Nat → Prop} {v : Value} {r : List Int} {n : Int} (h : Kd.R (Kd.int .u64) 62 w b ok v r) (hN : Nl r) (hn : lv r = n) : Lo w b v n := ⟨r, Kd.own_of_R h, hN, hn⟩
theorem ld_of {w : World} {b : Nat} {ok : Nat → Prop} {v : Value} {r : List Int} {n : Int} (h : Kd.R (Kd.int .u64) 62 w b ok v r) (hN : Nl r) (hn : lv r = n) : Ld w v n := by
  obtain ⟨A, c, rfl, hl, hC⟩ := Kd.R_reads h
  exact ⟨A, c, r, rfl, hl, hC, hN, hn⟩
theorem natOf_d (x : Nat) (hx : x < 18446744073709551616) (w : World) : Calls Tryd.prog 47 #[.int .u64 x] w (LPost x w) := by
  obtain ⟨r, h1, h2, h3, h4⟩ := natOf_f x hx 10 (by omega)
  refine (girderref02_NatOf.calls 10 x r w h1).mono ?_
  rintro e w' ⟨v, rfl, hR, hb⟩
  exact ⟨v, rfl, lo_of hR h3 h2, hb⟩
theorem up_d {w : World} {v : Value} {a : Int} (h : Ld w v a) (hs : Sl a) (n : Nat) (hn : n ≤ 1000000000) : Calls Tryd.prog 83 #[v, .int .i64 n] w (LPost (a * 2 ^ n) w) := by
  obtain ⟨A, c, l, rfl, hl, hC, hN, rfl⟩ := h
  have hlen := llen_of hN hs
  obtain ⟨r, h1, h2, h3⟩ := natUp_f l hN.1 n (by omega) (by omega)
  refine (girderref02_NatUp.calls _ A c l n r w hC hl h1).mono ?_
  rintro e w' ⟨v, rfl, hR, hb⟩
  exact ⟨v, rfl, lo_of hR h3 h2, hb⟩
theorem add_d {w : World} {u v : Value} {a b : Int} (h : Ld w u a) (k : Ld w v b) (hs : Sl a) (ks : Sl b) : Calls Tryd.prog 84 #[u, v] w (LPost (a + b) w) := by
  obtain ⟨A, c, l, rfl, hl, hC, hN, rfl⟩ := h
  obtain ⟨B, d, m, rfl, km, kC, kN, rfl⟩ := k
  have hlen := llen_of hN hs
  have klen := llen_of kN ks
  obtain ⟨r, h1, h2, h3⟩ := natAdd_f l m hN.1 kN.1 (by omega) (by omega)
  refine (girderref02_NatAdd.calls _ A c l B d m r w hC hl kC km h1).mono ?_
  rintro e w' ⟨v, rfl, hR, hb⟩
  exact ⟨v, rfl, lo_of hR h3 h2, hb⟩
theorem sub_d {w : World} {u v : Value} {a b : Int} (h : Ld w u a) (k : Ld w v b) (hs : Sl a) (hle : b ≤ a) : Calls Tryd.prog 86 #[u, v] w (LPost (a - b) w) := by
  obtain ⟨A, c, l, rfl, hl, hC, hN, rfl⟩ := h
  obtain ⟨B, d, m, rfl, km, kC, kN, rfl⟩ := k
  have hlen := llen_of hN hs
  have klen := llen_of kN (show Sl (lv m) by unfold Sl at *; omega)
  obtain ⟨r, h1, h2, h3⟩ := natSub_f l m hN.1 kN.1 (by omega) (by omega) hle
  refine (girderref02_NatSub.calls _ A c l B d m r w hC hl kC km h1).mono ?_
  rintro e w' ⟨v, rfl, hR, hb⟩
  exact ⟨v, rfl, lo_of hR h3 h2, hb⟩
theorem cmp_d {w : World} {u v : Value} {a b : Int} (h : Ld w u a) (k : Ld w v b) (hs : Sl a) (ks : Sl b) : Calls Tryd.prog 85 #[u, v] w fun e w' => e = .returned (.int .i64 (if a < b then -1 else if b < a then 1 else 0)) ∧ Below w.heap.size w w' := by
  obtain ⟨A, c, l, rfl, hl, hC, hN, rfl⟩ := h
  obtain ⟨B, d, m, rfl, km, kC, kN, rfl⟩ := k
  have hlen := llen_of hN hs
  have klen := llen_of kN ks
  exact girderref02_NatCmp.calls _ A c l B d m _ w hC hl kC km (natCmp_f l m hN.1 kN.1 (by omega) (by omega))
/-- A Num: its sign, its size, its exponent. -/
def Nu (w : World) (v : Value) (g : Bool) (m e : Int) : Prop := ∃ u, v = .agg #[.bool g, u, .int .i64 e] ∧ Ld w u m
theorem Nu.below {w w1 : World} {v : Value} {g : Bool} {m e : Int} (h : Nu w v g m e) (hb : Below w.heap.size w w1) : Nu w1 v g m e := by
  obtain ⟨u, rfl, hu⟩ := h
  exact ⟨u, rfl, hu.below hb⟩
def NumPost (g : Bool) (m x : Int) (w : World) (e : Ending) (w' : World) : Prop := ∃ v, e = .returned v ∧ Nu w' v g m x ∧ Below w.heap.size w w'
theorem times_d {w : World} {u v : Value} {g g' : Bool} {m m' x x' : Int} (h : Nu w u g m x) (k : Nu w v g' m' x') (hs : Sl m) (ks : Sl m') (hx : -1000000000 ≤ x ∧ x ≤ 1000000000) (kx : -1000000000 ≤ x' ∧ x' ≤ 1000000000) :
    Calls Tryd.prog 66 #[u, v] w (NumPost (g != g') (m * m') (x + x') w) := by
  obtain ⟨u, rfl, A, c, l, rfl, hl, hC, hN, rfl⟩ := h
  obtain ⟨v, rfl, B, d, l', rfl, kl, kC, kN, rfl⟩ := k
  have hlen := llen_of hN hs
  have klen := llen_of kN ks
  obtain ⟨r, h1, h2, h3⟩ := natMul_f l l' hN.1 kN.1 (by omega) (by omega)
  have hw : wrap64 (x + x') = x + x' := by unfold wrap64; omega
  refine (girderref02_Times.calls K0 g A c l x g' B d l' x' (g != g') r (x + x') w hC hl kC kl (by unfold girderref02_Times.f; rw [h1, hw]; rfl)).mono ?_
  rintro e w' ⟨v, rfl, hR, hb⟩
  exact ⟨_, rfl, ⟨v, rfl, ld_of hR h3 h2⟩, hb⟩
def zeroB (m : Int) : Bool := decide (m = 0)
theorem zero_d {w : World} {u : Value} {g : Bool} {m x : Int} (h : Nu w u g m x) (hs : Sl m) :
    Calls Tryd.prog 82 #[u] w fun e w' => e = .returned (.bool (zeroB m)) ∧ Below w.heap.size w w' := by
  obtain ⟨u, rfl, A, c, l, rfl, hl, hC, hN, rfl⟩ := h
  have hlen := llen_of hN hs
  obtain ⟨r, h1, h2, h3⟩ := natBits_f l hN.1 (by omega)
  refine girderref02_Num_Zero.calls K0 g A c l x _ w hC hl ?_
  unfold girderref02_Num_Zero.f
  rw [h1, Option.bind_some]
  congr 1
  unfold zeroB
  rw [Bool.eq_iff_iff]; simp [h2]
def sgnB (g : Bool) (m : Int) : Int := if m = 0 then 0 else if g = true then -1 else 1
theorem sign_d {w : World} {u : Value} {g : Bool} {m x : Int} (h : Nu w u g m x) (hs : Sl m) :
    Calls Tryd.prog 65 #[u] w fun e w' => e = .returned (.int .i64 (sgnB g m)) ∧ Below w.heap.size w w' := by
  obtain ⟨u, rfl, A, c, l, rfl, hl, hC, hN, rfl⟩ := h
  have hlen := llen_of hN hs
  obtain ⟨r, h1, h2, h3⟩ := natBits_f l hN.1 (by omega)
  refine girderref02_Num_Sign.calls K0 g A c l x _ w hC hl ?_
  unfold girderref02_Num_Sign.f girderref02_Num_Zero.f
  rw [h1, Option.bind_some, Option.bind_some]
  unfold sgnB
  by_cases h0 : lv l = 0
  · rw [if_pos (by simpa using h2.2 h0), if_pos h0]
  · rw [if_neg (by simpa using fun e => h0 (h2.1 e)), if_neg h0]
    cases g <;> rfl
end Go.Proofs.YtaedkekjekbjmaaDoor

/- A region that draws its order, with loads, calls that make memory, and one call (number g) that writes what the loads read, behind all of them: till then S holds. -/
namespace Go.Proofs.YtaedkekjekbjmaaDoor
open Go

section
variable {P : Program} {ops : Array Oper} {Q : Exit → Act → World → Prop} {md : Region.Mode} {S : World → Prop} {g : Nat}

/-- Whatever order is picked from here on; till number g has come up, S holds behind every operation. -/
def wpG (P : Program) (md : Region.Mode) (ops : Array Oper) (Q : Exit → Act → World → Prop) (S : World → Prop) (g : Nat) : Nat → Array Bool → Act → World → Prop
  | 0, listed, a, w => Region.ready md ops listed = [] ∧ Q .normal a w
  | fuel + 1, listed, a, w =>
    (Region.ready md ops listed = [] → Q .normal a w) ∧
    ∀ i ∈ Region.ready md ops listed, wpOp P ops Q i (fun a' w' => ((listed.setIfInBounds i true).getD g true = true ∨ S w') ∧ wpG P md ops Q S g fuel (listed.setIfInBounds i true) a' w') a w
theorem wpAny_of_G : ∀ (fuel : Nat) (listed : Array Bool) (a : Act) (w : World), wpG P md ops Q S g fuel listed a w → wpAny P md ops Q fuel listed a w
  | 0, _, _, _, h => h
  | fuel + 1, _, _, _, h => ⟨h.1, fun i hi => wpOp_mono (fun a' w' h' => wpAny_of_G fuel _ a' w' h'.2) (h.2 i hi)⟩
theorem wp_region_G {id : Nat} {a : Act} {w : World} (hm : P.follows .mixedOrders = true)
    (h : wpG P .any ops Q S g ops.size (Array.replicate ops.size false) a w.drew) : (Code.region id ops true).wp P Q a w :=
  wp_region_any hm (wpAny_of_G _ _ _ _ h)
/-- An operation that yields in whatever world is taken first. -/
theorem wpG_first {i : Nat} {oi : Oper} {v : Value} (hgi : i ≠ g) (hi : ops[i]? = some oi) (hsel : ∀ (j : Nat) (o : Oper) cs b, ops[j]? = some o → o.op ≠ .select cs b)
    (hQ : ∀ c a w, Q (.panic c) (a.put oi.dst v) w → Q (.panic c) a w) :
    ∀ (fuel : Nat) (listed : Array Bool) (a : Act) (w : World),
      (∀ j oj, ops[j]? = some oj → j ≠ i → listed.getD j true = false → (∀ e ∈ oj.after, Region.binds md e = true → e.on ≠ i) → oi.apart ops oj = true) →
      i ∈ Region.ready md ops listed → Yields P ops oi v a → ((listed.setIfInBounds i true).getD g true = true ∨ S w) →
      wpG P md ops Q S g fuel (listed.setIfInBounds i true) (a.put oi.dst v) w → wpG P md ops Q S g (fuel + 1) listed a w := by
  intro fuel
  induction fuel with
  | zero =>
    intro listed a w _ hr hy hS H
    refine ⟨fun h => (by rw [h] at hr; cases hr), fun j hj => ?_⟩
    by_cases hji : j = i
    · subst hji; exact hy.wpOp hi ⟨hS, H⟩
    · have := ready_mono hj hji
      rw [H.1] at this
      cases this
  | succ fuel ih =>
    intro listed a w hfree hr hy hS H
    refine ⟨fun h => (by rw [h] at hr; cases hr), fun j hj => ?_⟩
    by_cases hji : j = i
    · subst hji; exact hy.wpOp hi ⟨hS, H⟩
    · have h1 := H.2 j (ready_mono hj hji)
      obtain ⟨hjun, oj, hoj, hall⟩ := mem_ready.1 hj
      have hnot : ∀ e ∈ oj.after, Region.binds md e = true → e.on ≠ i := fun e he hb heq => by
        have h1 := hall e he hb
        have h0 := (mem_ready.1 hr).1
        rw [heq] at h1
        rcases Nat.lt_or_ge i listed.size with h' | h'
        · simp [h'] at h0 h1; rw [h0] at h1; cases h1
        · simp [Array.getElem?_eq_none h'] at h1
      have h2 := wpOp_put hoj (hfree j oj hoj hji hjun hnot) (fun cs b => hsel i oi cs b hi) (fun cs b => hsel j oj cs b hoj) hQ hy h1
      have hfree' : ∀ k ok, ops[k]? = some ok → k ≠ i → (listed.setIfInBounds j true).getD k true = false →
          (∀ e ∈ ok.after, Region.binds md e = true → e.on ≠ i) → oi.apart ops ok = true := fun k ok hk hki hun hno => by
        refine hfree k ok hk hki ?_ hno
        by_cases hjk : j = k
        · subst hjk; exact hjun
        · rw [getD_set_ne true hjk] at hun; exact hun
      refine wpOp_mono (fun a' w' h3 => ?_) h2
      have e : (listed.setIfInBounds j true).setIfInBounds i true = (listed.setIfInBounds i true).setIfInBounds j true := Array.setIfInBounds_comm _ _ hji
      have hS2 : ((listed.setIfInBounds j true).setIfInBounds i true).getD g true = true ∨ S w' := by rw [e]; exact h3.2.1
      refine ⟨?_, ih (listed.setIfInBounds j true) a' w' hfree' (ready_mono hr (Ne.symm hji)) h3.1 hS2 (by rw [e]; exact h3.2.2)⟩
      rcases h3.2.1 with h4 | h4
      · rw [← e, getD_set_ne true hgi] at h4
        exact .inl h4
      · exact .inr h4
/-- Number c waits for number i. -/
def Waits (md : Region.Mode) (ops : Array Oper) (c i : Nat) : Bool := match ops[c]? with
  | some o => o.after.any fun e => Region.binds md e && e.on == i
  | none => false
theorem Waits.not_ready {c i : Nat} {listed : Array Bool} (h : Waits md ops c i = true) (hi : listed.getD i true = false) : c ∉ Region.ready md ops listed := by
  intro hr
  obtain ⟨_, o, ho, hall⟩ := mem_ready.1 hr
  unfold Waits at h
  rw [ho] at h
  obtain ⟨e, he, hb⟩ := Array.any_eq_true'.1 h
  simp only [Bool.and_eq_true, beq_iff_eq] at hb
  have h1 := hall e he hb.1
  rw [hb.2] at h1
  rcases Nat.lt_or_ge i listed.size with h' | h'
  · simp [h'] at hi h1; rw [hi] at h1; cases h1
  · simp [Array.getElem?_eq_none h'] at h1
/-- A load is taken first: number g waits for c, and c for the load. -/
theorem wpG_load {i c : Nat} {oi : Oper} {v : Value} (hgi : i ≠ g) (hci : Waits md ops c i = true) (hgc : (g == c || Waits md ops g c) = true) (hi : ops[i]? = some oi) (hsel : ∀ (j : Nat) (o : Oper) cs b, ops[j]? = some o → o.op ≠ .select cs b)
    (hQ : ∀ c a w, Q (.panic c) (a.put oi.dst v) w → Q (.panic c) a w) :
    ∀ (fuel : Nat) (listed : Array Bool) (a : Act) (w : World),
      (∀ j oj, ops[j]? = some oj → j ≠ i → listed.getD j true = false → (∀ e ∈ oj.after, Region.binds md e = true → e.on ≠ i) → oi.apart ops oj = true) →
      i ∈ Region.ready md ops listed → listed.getD c true = false → listed.getD g true = false → YieldsIf P ops S oi v a → S w →
      wpG P md ops Q S g fuel (listed.setIfInBounds i true) (a.put oi.dst v) w → wpG P md ops Q S g (fuel + 1) listed a w := by
  intro fuel
  induction fuel with
  | zero =>
    intro listed a w _ hr hc hg hy hS H
    refine ⟨fun h => (by rw [h] at hr; cases hr), fun j hj => ?_⟩
    by_cases hji : j = i
    · subst hji; exact hy.wpOp hi hS ⟨.inr hS, H⟩
    · have := ready_mono hj hji
      rw [H.1] at this
      cases this
  | succ fuel ih =>
    intro listed a w hfree hr hc hg hy hS H
    refine ⟨fun h => (by rw [h] at hr; cases hr), fun j hj => ?_⟩
    by_cases hji : j = i
    · subst hji; exact hy.wpOp hi hS ⟨.inr hS, H⟩
    · have h1 := H.2 j (ready_mono hj hji)
      have hun := (mem_ready.1 hr).1
      have hjc : j ≠ c := fun h => Waits.not_ready hci hun (h ▸ hj)
      have hjg : j ≠ g := fun h => by
        rcases Bool.or_eq_true_iff.1 hgc with h2 | h2
        · exact hjc (h.trans (beq_iff_eq.1 h2))
        · exact Waits.not_ready h2 hc (h ▸ hj)
      obtain ⟨hjun, oj, hoj, hall⟩ := mem_ready.1 hj
      have hnot : ∀ e ∈ oj.after, Region.binds md e = true → e.on ≠ i := fun e he hb heq => by
        have h1 := hall e he hb
        rw [heq] at h1
        rcases Nat.lt_or_ge i listed.size with h' | h'
        · simp [h'] at hun h1; rw [hun] at h1; cases h1
        · simp [Array.getElem?_eq_none h'] at h1
      have h2 := wpOp_putIf hoj (hfree j oj hoj hji hjun hnot) (fun cs b => hsel i oi cs b hi) (fun cs b => hsel j oj cs b hoj) hQ hy h1
      have hfree' : ∀ k ok, ops[k]? = some ok → k ≠ i → (listed.setIfInBounds j true).getD k true = false →
          (∀ e ∈ ok.after, Region.binds md e = true → e.on ≠ i) → oi.apart ops ok = true := fun k ok hk hki hun hno => by
        refine hfree k ok hk hki ?_ hno
        by_cases hjk : j = k
        · subst hjk; exact hjun
        · rw [getD_set_ne true hjk] at hun; exact hun
      refine wpOp_mono (fun a' w' h3 => ?_) h2
      have e : (listed.setIfInBounds j true).setIfInBounds i true = (listed.setIfInBounds i true).setIfInBounds j true := Array.setIfInBounds_comm _ _ hji
      have hS2 : S w' := by
        rcases h3.2.1 with h4 | h4
        · rw [← e, getD_set_ne true hgi, getD_set_ne true hjg, hg] at h4; cases h4
        · exact h4
      exact ⟨.inr hS2, ih (listed.setIfInBounds j true) a' w' hfree' (ready_mono hr (Ne.symm hji)) (by rw [getD_set_ne true hjc]; exact hc) (by rw [getD_set_ne true hjg]; exact hg) h3.1 hS2 (by rw [e]; exact h3.2.2)⟩

/-! ### The moves of a walk -/
theorem wpG_take {i : Nat} {oi : Oper} {v : Value} {fuel : Nat} {listed : Array Bool} {a : Act} {w : World} (hi : ops[i]? = some oi) (hgi : (i != g) = true)
    (hs : Region.noSelect ops = true) (hf : Region.free md ops listed i = true) (hr : (Region.ready md ops listed).contains i = true)
    (hQ : ∀ c a w, Q (.panic c) (a.put oi.dst v) w → Q (.panic c) a w) (hy : Yields P ops oi v a) (hS : (listed.setIfInBounds i true).getD g true = true ∨ S w)
    (h : wpG P md ops Q S g fuel (listed.setIfInBounds i true) (a.put oi.dst v) w) : wpG P md ops Q S g (fuel + 1) listed a w :=
  wpG_first (by simpa using hgi) hi (Region.noSelect_spec hs) hQ fuel listed a w (Region.free_spec hi hf) (by simpa using hr) hy hS h
theorem wpG_ld {i : Nat} (c : Nat) {oi : Oper} {v : Value} {fuel : Nat} {listed : Array Bool} {a : Act} {w : World} (hi : ops[i]? = some oi) (hgi : (i != g) = true)
    (hs : Region.noSelect ops = true) (hf : Region.free md ops listed i = true) (hr : (Region.ready md ops listed).contains i = true)
    (hw : (Waits md ops c i && (g == c || Waits md ops g c) && !(listed.getD c true) && !(listed.getD g true)) = true)
    (hQ : ∀ c a w, Q (.panic c) (a.put oi.dst v) w → Q (.panic c) a w) (hy : YieldsIf P ops S oi v a) (hS : S w)
    (h : wpG P md ops Q S g fuel (listed.setIfInBounds i true) (a.put oi.dst v) w) : wpG P md ops Q S g (fuel + 1) listed a w := by
  simp only [Bool.and_eq_true, Bool.not_eq_true'] at hw
  exact wpG_load (by simpa using hgi) hw.1.1.1 hw.1.1.2 hi (Region.noSelect_spec hs) hQ fuel listed a w (Region.free_spec hi hf) (by simpa using hr) hw.1.2 hw.2 hy hS h
/-- One alone may come up. -/
theorem wpG_one {i : Nat} {o : Oper} {fuel : Nat} {listed : Array Bool} {a : Act} {w : World} (hr : Region.ready md ops listed = [i]) (hi : ops[i]? = some o)
    (h : ∀ K' : Act → World → Prop, (∀ a' w', ((listed.setIfInBounds i true).getD g true = true ∨ S w') → wpG P md ops Q S g fuel (listed.setIfInBounds i true) a' w' → K' a' w') → if Region.wanted o (yielded ops a.tmps) = true then Oper.wp P o a w K' Q else K' (a.put o.dst undef) w) : wpG P md ops Q S g (fuel + 1) listed a w := by
  refine ⟨fun h0 => (by rw [hr] at h0; cases h0), fun j hj => ?_⟩
  rw [hr, List.mem_singleton] at hj
  subst hj
  exact wpOp_step hi (fun K' hK => h K' (fun a' w' h1 h2 => hK a' w' ⟨h1, h2⟩))
theorem wpG_done {listed : Array Bool} {a : Act} {w : World} (hr : Region.ready md ops listed = []) (h : Q .normal a w) : ∀ fuel, wpG P md ops Q S g fuel listed a w
  | 0 => ⟨hr, h⟩
  | _ + 1 => ⟨fun _ => h, by rw [hr]; simp⟩
end
end Go.Proofs.YtaedkekjekbjmaaDoor

/- A region that draws its order, more: a load whose value goes a longer way to the writing call. -/
namespace Go.Proofs.YtaedkekjekbjmaaDoor
open Go
section
variable {P : Program} {ops : Array Oper} {Q : Exit → Act → World → Prop} {md : Region.Mode} {S : World → Prop} {g : Nat}
/-- Each waits for the one ahead of it. -/
def chainW (md : Region.Mode) (ops : Array Oper) : Nat → List Nat → Bool
  | _, [] => true
  | i, c :: r => Waits md ops c i && chainW md ops c r
theorem chainW.not_ready {listed : Array Bool} : ∀ (cs : List Nat) (i : Nat), chainW md ops i cs = true → listed.getD i true = false → (∀ c ∈ cs, listed.getD c true = false) → ∀ c ∈ cs, c ∉ Region.ready md ops listed
  | [], _, _, _, _, _, h => by cases h
  | c :: r, i, hw, hi, hc, d, hd => by
    unfold chainW at hw
    simp only [Bool.and_eq_true] at hw
    rcases List.mem_cons.1 hd with rfl | hd
    · exact Waits.not_ready hw.1 hi
    · exact chainW.not_ready r c hw.2 (hc c (by simp)) (fun x hx => hc x (by simp [hx])) d hd
theorem wpG_loadC {i : Nat} (cs : List Nat) {oi : Oper} {v : Value} (hgi : i ≠ g) (hcs : chainW md ops i cs = true) (hgc : g ∈ cs) (hi : ops[i]? = some oi) (hsel : ∀ (j : Nat) (o : Oper) cs b, ops[j]? = some o → o.op ≠ .select cs b)
    (hQ : ∀ c a w, Q (.panic c) (a.put oi.dst v) w → Q (.panic c) a w) :
    ∀ (fuel : Nat) (listed : Array Bool) (a : Act) (w : World),
      (∀ j oj, ops[j]? = some oj → j ≠ i → listed.getD j true = false → (∀ e ∈ oj.after, Region.binds md e = true → e.on ≠ i) → oi.apart ops oj = true) →
      i ∈ Region.ready md ops listed → (∀ c ∈ cs, listed.getD c true = false) → YieldsIf P ops S oi v a → S w →
      wpG P md ops Q S g fuel (listed.setIfInBounds i true) (a.put oi.dst v) w → wpG P md ops Q S g (fuel + 1) listed a w := by
  intro fuel
  induction fuel with
  | zero =>
    intro listed a w _ hr hc hy hS H
    refine ⟨fun h => (by rw [h] at hr; cases hr), fun j hj => ?_⟩
    by_cases hji : j = i
    · subst hji; exact hy.wpOp hi hS ⟨.inr hS, H⟩
    · have := ready_mono hj hji
      rw [H.1] at this
      cases this
  | succ fuel ih =>
    intro listed a w hfree hr hc hy hS H
    refine ⟨fun h => (by rw [h] at hr; cases hr), fun j hj => ?_⟩
    by_cases hji : j = i
    · subst hji; exact hy.wpOp hi hS ⟨.inr hS, H⟩
    · have h1 := H.2 j (ready_mono hj hji)
      have hun := (mem_ready.1 hr).1
      have hjc : ∀ c ∈ cs, j ≠ c := fun c hc' h => chainW.not_ready cs i hcs hun hc c hc' (h ▸ hj)
      have hjg : j ≠ g := hjc g hgc
      obtain ⟨hjun, oj, hoj, hall⟩ := mem_ready.1 hj
      have hnot : ∀ e ∈ oj.after, Region.binds md e = true → e.on ≠ i := fun e he hb heq => by
        have h1 := hall e he hb
        rw [heq] at h1
        rcases Nat.lt_or_ge i listed.size with h' | h'
        · simp [h'] at hun h1; rw [hun] at h1; cases h1
        · simp [Array.getElem?_eq_none h'] at h1
      have h2 := wpOp_putIf hoj (hfree j oj hoj hji hjun hnot) (fun cs b => hsel i oi cs b hi) (fun cs b => hsel j oj cs b hoj) hQ hy h1
      have hfree' : ∀ k ok, ops[k]? = some ok → k ≠ i → (listed.setIfInBounds j true).getD k true = false →
          (∀ e ∈ ok.after, Region.binds md e = true → e.on ≠ i) → oi.apart ops ok = true := fun k ok hk hki hun hno => by
        refine hfree k ok hk hki ?_ hno
        by_cases hjk : j = k
        · subst hjk; exact hjun
        · rw [getD_set_ne true hjk] at hun; exact hun
      refine wpOp_mono (fun a' w' h3 => ?_) h2
      have e : (listed.setIfInBounds j true).setIfInBounds i true = (listed.setIfInBounds i true).setIfInBounds j true := Array.setIfInBounds_comm _ _ hji
      have hS2 : S w' := by
        rcases h3.2.1 with h4 | h4
        · rw [← e, getD_set_ne true hgi, getD_set_ne true hjg, hc g hgc] at h4; cases h4
        · exact h4
      exact ⟨.inr hS2, ih (listed.setIfInBounds j true) a' w' hfree' (ready_mono hr (Ne.symm hji)) (fun c hc' => by rw [getD_set_ne true (hjc c hc')]; exact hc c hc') h3.1 hS2 (by rw [e]; exact h3.2.2)⟩
theorem wpG_ldC {i : Nat} (cs : List Nat) {oi : Oper} {v : Value} {fuel : Nat} {listed : Array Bool} {a : Act} {w : World} (hi : ops[i]? = some oi) (hgi : (i != g) = true)
    (hs : Region.noSelect ops = true) (hf : Region.free md ops listed i = true) (hr : (Region.ready md ops listed).contains i = true)
    (hw : (chainW md ops i cs && cs.contains g && cs.all (fun c => !(listed.getD c true))) = true)
    (hQ : ∀ c a w, Q (.panic c) (a.put oi.dst v) w → Q (.panic c) a w) (hy : YieldsIf P ops S oi v a) (hS : S w)
    (h : wpG P md ops Q S g fuel (listed.setIfInBounds i true) (a.put oi.dst v) w) : wpG P md ops Q S g (fuel + 1) listed a w := by
  simp only [Bool.and_eq_true, List.all_eq_true, Bool.not_eq_true'] at hw
  exact wpG_loadC cs (by simpa using hgi) hw.1.1 (by simpa using hw.1.2) hi (Region.noSelect_spec hs) hQ fuel listed a w (Region.free_spec hi hf) (by simpa using hr) (fun c hc => hw.2 c hc) hy hS h
end
end Go.Proofs.YtaedkekjekbjmaaDoor

/- girderref02's Minus, Whole (of 0 and 1). -/
namespace Go.Proofs.YtaedkekjekbjmaaDoor
open Go Go.RowKit Nv
open Go.Proofs.YtaedkekjekbjmaaDoorW.PrintWords (Kd)
set_option maxRecDepth 100000
set_option linter.unusedSimpArgs false

theorem two_blk3 (w : World) (o o' : Obj) : ((w.alloc o).alloc o').heap[w.heap.size]? = some o ∧ ((w.alloc o).alloc o').heap[w.heap.size + 1]? = some o' := by
  refine ⟨kb_alloc (kb_new (Below.refl _ _)), ?_⟩
  have := kb_new (w := w.alloc o) (o := o') (Below.refl _ _)
  simpa using this
abbrev nilN : Obj := .cells #[.bool false, .slice none 0 0, .int .i64 0] 50
theorem hp_set {w : World} {g : Nat} {cs : Array Value} {t : TypeId} (h : w.heap[g]? = some (.cells cs t (0, 0))) (i : Nat) (u : Value) : (w.setCell ⟨g, i, none⟩ u).heap[g]? = some (.cells (cs.setIfInBounds i u) t (0, 0)) := by
  simp [World.setCell, Array.getElem?_modify, h]
theorem hp_other {w : World} {g k : Nat} (h : k ≠ g) (i : Nat) (u : Value) : (w.setCell ⟨g, i, none⟩ u).heap[k]? = w.heap[k]? := by
  simp [World.setCell, Array.getElem?_modify, Ne.symm h]
theorem minus_d {W : World} {u : Value} {g : Bool} {m x : Int} (h : Nu W u g m x) : Calls Tryd.prog 64 #[u] W (NumPost (!g) m x W) := by
  obtain ⟨u, rfl, A, c, l, rfl, hl, hC, hN, rfl⟩ := h
  have HL : Hid (Ld W (.slice A l.length c) (lv l)) := Lib.hid ⟨A, c, l, rfl, hl, hC, hN, rfl⟩
  clear hl hC hN
  go_enter Tryd.func64, Tryd.ntmps64
  go_wp2
  refine bodyPost_ret (v := .agg #[.bool (!g), .slice A l.length c, .int .i64 x]) (by simp [results, Tryd.results64, go_sem]) rfl ?_
  exact ⟨_, rfl, ⟨_, rfl, HL.out.below (by repeat' (first | (with_reducible exact Below.refl _ _) | (with_reducible refine bl_alloc ?_ _) | (with_reducible refine bl_drewN ?_ _) | (with_reducible refine bl_drew ?_) | (with_reducible refine bl_set ?_ _ (by simp))))⟩, by repeat' (first | (with_reducible exact Below.refl _ _) | (with_reducible refine bl_alloc ?_ _) | (with_reducible refine bl_drewN ?_ _) | (with_reducible refine bl_drew ?_) | (with_reducible refine bl_set ?_ _ (by simp)))⟩
theorem whole_d (n : Nat) (hn : n ≤ 1000) (W : World) : Calls Tryd.prog 51 #[.int .i64 (n : Int)] W (NumPost false n 0 W) := by
  have k1 : decide ((n : Int) < 0) = false := decide_eq_false (by omega)
  have k2 : IntKind.u64.wrap (n : Int) = (n : Int) := by rw [IntKind.wrap_u64]; omega
  have NO : Hid (∀ w, Calls Tryd.prog 47 #[.int .u64 (n : Int)] w (LPost (n : Int) w)) := Lib.hid (fun w => natOf_d n (by omega) w)
  go_enter Tryd.func51, Tryd.ntmps51
  go_wp2_with (first
    | (go_at_call 47; (with_reducible refine (NO.out _).mono ?_); rintro e w1 ⟨v, rfl, hv, hb⟩; obtain ⟨A, m, c, rfl⟩ := hv.ld.slice; have HV := Lib.hid hv; have HB := Lib.hid hb; have q0 := kb_keep hb (two_blk3 W nilN nilN).1; have q1 := kb_keep hb (two_blk3 W nilN nilN).2; have f1 := kb_frozen q1 1; have d1 := kb_cell q1 (i := 1) rfl; have d4 := kb_cell q1 (i := 0) rfl; have d5 := kb_cell q1 (i := 2) rfl; have f0 := kb_frozen q0 0; have f2 := kb_frozen q0 1; have f3 := kb_frozen q0 2; have d0 := kb_cell q0 (i := 0) rfl; have d2 := kb_cell q0 (i := 1) rfl; have d3 := kb_cell q0 (i := 2) rfl; clear hv hb))
  have z3 := hp_set (hp_set (hp_set ((hp_other (show W.heap.size ≠ W.heap.size + 1 by omega) 1 (.slice A m c)).trans q0) 0 (.bool false)) 1 (.slice A m c)) 2 (.int .i64 0)
  have Z0 := Lib.hid (kb_cell z3 (i := 0) rfl)
  have Z1 := Lib.hid (kb_cell z3 (i := 1) rfl)
  have Z2 := Lib.hid (kb_cell z3 (i := 2) rfl)
  refine bodyPost_ret (v := .agg #[.bool false, .slice A m c, .int .i64 0]) (by simp [results, Tryd.results51, go_sem, Z0.out, Z1.out, Z2.out]) rfl ?_
  refine ⟨_, rfl, ⟨_, rfl, (HV.out.move (fun k hk => ?_)).ld⟩, ?_⟩
  · have := HV.out.ge k hk
    simp at this
    rw [hp_other (by omega), hp_other (by omega), hp_other (by omega), hp_other (by omega)]
  · exact bl_set (bl_set (bl_set (bl_set (bl_then (bl_alloc (bl_alloc (Below.refl _ _) _) _) HB.out) _ (by simp)) _ (by simp)) _ (by simp)) _ (by simp)
end Go.Proofs.YtaedkekjekbjmaaDoor
