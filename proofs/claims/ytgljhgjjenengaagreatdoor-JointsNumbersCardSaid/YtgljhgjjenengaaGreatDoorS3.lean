/- Plain laws: which parts are a float's, and of which. No program. -/
import Derived.Test.YtgljhgjjenengaaGreatDoorS2
namespace GFl
open Ieee

/-- Are these the parts of a finite float? -/
def joinOk (fr : Nat) (ex : Int) : Prop := fr = 0 ∧ ex = 0 ∨ fr % 2 = 1 ∧ fr < 9007199254740992 ∧ -1074 ≤ ex ∧ fr * p2 (ex + 1074).toNat < p2 2098
/-- Of that float. -/
structure IsJoin (ng : Bool) (fr : Nat) (ex : Int) (z : Nat) : Prop where
  w : W64 z
  s : neg z = ng
  f : rg z < 9218868437227405312
  m : mg B52 (rg z) = fr * p2 (ex + 1074).toNat
theorem IsJoin.unique {ng : Bool} {fr : Nat} {ex : Int} {y z : Nat} (h : IsJoin ng fr ex y) (h' : IsJoin ng fr ex z) : y = z :=
  w64_ext h.w h'.w (h.s.trans h'.s.symm) (mg_inj B52_pos (h.m.trans h'.m.symm))

theorem p2_lt {a b : Nat} (h : p2 a < p2 b) : a < b := by
  rcases Nat.lt_or_ge a b with h1 | h1
  · exact h1
  · have := p2_le h1; omega
theorem p2_lt' {a b : Nat} (h : a < b) : p2 a < p2 b := by
  have h1 : p2 (a + 1) ≤ p2 b := p2_le h
  rw [p2_add] at h1
  have h2 : p2 1 = 2 := by decide +kernel
  have := p2_pos a
  rw [h2] at h1; omega

/-- The bits of a number: below 2^n, not below 2^(n - 1). -/
structure Len (fr n : Nat) : Prop where
  pos : 1 ≤ n
  lo : p2 (n - 1) ≤ fr
  hi : fr < p2 n
theorem Len.le53 {fr n : Nat} (h : Len fr n) : n ≤ 53 ↔ fr < 9007199254740992 := by
  have e : p2 53 = 9007199254740992 := by decide +kernel
  rw [← e]
  constructor
  · intro h1; exact Nat.lt_of_lt_of_le h.hi (p2_le h1)
  · intro h1
    have := p2_lt (Nat.lt_of_le_of_lt h.lo h1)
    omega
theorem Len.fits {fr n : Nat} {ex : Int} (h : Len fr n) (he : -1074 ≤ ex) : fr * p2 (ex + 1074).toNat < p2 2098 ↔ ex + n ≤ 1024 := by
  have hp := h.pos
  constructor
  · intro h1
    have h2 : p2 (n - 1) * p2 (ex + 1074).toNat ≤ fr * p2 (ex + 1074).toNat := Nat.mul_le_mul_right _ h.lo
    rw [← p2_add] at h2
    have := p2_lt (Nat.lt_of_le_of_lt h2 h1)
    omega
  · intro h1
    have h2 : fr * p2 (ex + 1074).toNat < p2 n * p2 (ex + 1074).toNat := Nat.mul_lt_mul_of_pos_right h.hi (p2_pos _)
    rw [← p2_add] at h2
    exact Nat.lt_of_lt_of_le h2 (p2_le (by omega))
theorem joinOk_odd {fr n : Nat} {ex : Int} (h : Len fr n) (ho : fr % 2 = 1) : joinOk fr ex ↔ n ≤ 53 ∧ -1074 ≤ ex ∧ ex + n ≤ 1024 := by
  unfold joinOk
  have h1 := h.le53
  constructor
  · rintro (⟨h2, _⟩ | ⟨_, h2, h3, h4⟩)
    · omega
    · exact ⟨h1.2 h2, h3, (h.fits h3).1 h4⟩
  · rintro ⟨h2, h3, h4⟩
    exact .inr ⟨ho, h1.1 h2, h3, (h.fits h3).2 h4⟩
theorem joinOk_even {fr : Nat} {ex : Int} (h0 : fr ≠ 0) (h : fr % 2 = 0) : ¬ joinOk fr ex := by
  unfold joinOk; omega
theorem joinOk_zero {ex : Int} : joinOk 0 ex ↔ ex = 0 := by
  unfold joinOk; omega

/-- A number of at most 53 digits as a word, scaled. -/
theorem isJoin_ld {c fr : Nat} {ex : Int} {z : Nat} (hc : mg B52 (rg c) = fr * p2 1074) (hn : neg c = false) (hf : fr < 9007199254740992) (he : -1074 ≤ ex) (hlt : fr * p2 (ex + 1074).toNat < p2 2098) (h : IsLd c ex z) : IsJoin false fr ex z := by
  obtain ⟨r, hr, e⟩ := h
  rw [hc] at hr
  obtain ⟨q, hq⟩ := rep (B := B52) fr (ex + 1074).toNat (by unfold B52; omega)
  have hrq : r = q := by
    refine rn_exact B52_pos (p2_pos _) hr ?_
    rw [hq, Nat.mul_assoc, Nat.mul_assoc, ← p2_add, ← p2_add]
    congr 2; omega
  have hhi : q < 9218868437227405312 := by
    rw [← mg_lt_iff (B := B52) B52_pos, hq, mgINF]
    have h2 : B52 * p2 2046 = p2 2098 := by rw [show B52 = p2 52 from by decide +kernel, ← p2_add]
    rw [h2]; exact hlt
  have hq63 : q < 9223372036854775808 := by omega
  rw [hrq, hn, Nat.min_eq_left (Nat.le_of_lt hhi)] at e
  rw [e]
  exact ⟨wd_w hq63, wd_neg hq63, by rw [wd_rg hq63]; exact hhi, by rw [wd_rg hq63]; exact hq⟩
theorem isJoin_neg {fr : Nat} {ex : Int} {z : Nat} (h : IsJoin false fr ex z) : IsJoin true fr ex (wd true (rg z)) := by
  have hl := rg_lt z
  exact ⟨wd_w hl, wd_neg hl, by rw [wd_rg hl]; exact h.f, by rw [wd_rg hl]; exact h.m⟩

/-- A whole number of at most 53 digits as a float. -/
theorem ofNat64 {n : Nat} (h : n < 9007199254740992) : ∃ z, double.write (.number false n 0) = z ∧ W64 z ∧ neg z = false ∧ rg z < 9218868437227405312 ∧ mg B52 (rg z) = n * p2 1074 := by
  obtain ⟨r, hr, e⟩ := nearest_rn good_double false n 0
  obtain ⟨q, hq⟩ := rep (B := B52) n 1074 (by unfold B52; omega)
  have e1 : ((0 : Int) - double.leastPlace).toNat = 1074 := by decide
  have e2 : (double.leastPlace - 0).toNat = 0 := by decide
  rw [d_b, ← p2_def, ← p2_def, e1, e2, p2_zero] at hr
  have hrq : r = q := rn_exact B52_pos Nat.one_pos hr (by rw [hq, Nat.mul_one])
  have hhi : q < 9218868437227405312 := by
    rw [← mg_lt_iff (B := B52) B52_pos, hq, mgINF]
    have h2 : B52 * p2 2046 = p2 2098 := by rw [show B52 = p2 52 from by decide +kernel, ← p2_add]
    have h3 : (9007199254740992 : Nat) = p2 53 := by decide +kernel
    rw [h2]
    refine Nat.lt_of_lt_of_le (Nat.mul_lt_mul_of_pos_right (h3 ▸ h) (p2_pos _)) ?_
    rw [← p2_add]; exact p2_le (by decide)
  have hq63 : q < 9223372036854775808 := by omega
  refine ⟨wd false q, ?_, wd_w hq63, wd_neg hq63, by rw [wd_rg hq63]; exact hhi, by rw [wd_rg hq63]; exact hq⟩
  show double.nearest false n 0 = _
  rw [e, hrq, d_inf, Nat.min_eq_left (Nat.le_of_lt hhi)]; rfl
end GFl
