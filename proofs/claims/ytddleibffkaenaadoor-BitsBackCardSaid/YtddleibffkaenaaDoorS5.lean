/- Doubling and halving on the way from a fraction to its float. Plain. -/
import Derived.Test.YtddleibffkaenaaDoorS4
namespace GFl
open Ieee
structure Stp (fr : Nat) (ex : Int) (s : Nat) (e : Int) : Prop where
  w : W64 s
  n : neg s = false
  f : rg s < 9218868437227405312
  m : mg B52 (rg s) = fr * p2 (1074 + ex - e).toNat
theorem p2_one : p2 1 = 2 := by decide +kernel
theorem Stp.down {x fr s : Nat} {ex e : Int} (h : Stp fr ex s e) (hfr : fr < 9007199254740992) (he : 0 < e) (hlo : e ≤ ex) (hx1 : rg x < 9218868437227405312) (hm : fr * p2 (ex + 1074).toNat = mg B52 (rg x)) :
    ∃ s', double.mul s 4611686018427387904 = some s' ∧ Stp fr ex s' (e - 1) := by
  obtain ⟨q, hq⟩ := rep (B := B52) fr (1074 + ex - (e - 1)).toNat (by unfold B52; omega)
  have hle : mg B52 q ≤ mg B52 (rg x) := by
    rw [hq, ← hm]; exact Nat.mul_le_mul_left _ (p2_le (by omega))
  have hq1 : q ≤ rg x := (mg_le_iff B52_pos).1 hle
  have e1 : (1074 + ex - (e - 1)).toNat = (1074 + ex - e).toNat + 1 := by omega
  have h2 : 2 * mg B52 (rg s) = mg B52 q := by
    rw [h.m, hq, e1, p2_add, p2_one, Nat.mul_comm 2, Nat.mul_assoc]
  refine ⟨_, dbl64 h.w h.f (by omega) h2, ?_⟩
  rw [h.n]
  exact ⟨wd_w (by omega), wd_neg (by omega), by rw [wd_rg (by omega)]; omega, by rw [wd_rg (by omega)]; exact hq⟩
theorem Stp.up {fr s : Nat} {ex e : Int} (h : Stp fr ex s e) (hfr : fr < 9007199254740992) (he : e < 0) (hlo : ex ≤ e) (hex : -1074 ≤ ex) :
    ∃ s', double.div s 4611686018427387904 = some s' ∧ Stp fr ex s' (e + 1) := by
  obtain ⟨q, hq⟩ := rep (B := B52) fr (1074 + ex - (e + 1)).toNat (by unfold B52; omega)
  have e1 : (1074 + ex - e).toNat = (1074 + ex - (e + 1)).toNat + 1 := by omega
  have h2 : mg B52 (rg s) = 2 * mg B52 q := by
    rw [h.m, hq, e1, p2_add, p2_one, ← Nat.mul_assoc, Nat.mul_comm]
  have hq1 : q ≤ rg s := (mg_le_iff B52_pos).1 (by omega)
  have hf := h.f
  refine ⟨_, half64 h.w h.f (by omega) h2, ?_⟩
  rw [h.n]
  exact ⟨wd_w (by omega), wd_neg (by omega), by rw [wd_rg (by omega)]; omega, by rw [wd_rg (by omega)]; exact hq⟩
theorem Stp.start {fr : Nat} {ex : Int} (hfr : fr < 9007199254740992) : ∃ c, double.write (.number false fr 0) = c ∧ Stp fr ex c ex := by
  obtain ⟨c, hc, c1, c2, c3, c4⟩ := ofNat64 hfr
  exact ⟨c, hc, c1, c2, c3, by rw [c4]; congr 2; omega⟩
theorem Stp.fin {x fr s : Nat} {ex : Int} (h : Stp fr ex s 0) (hm : fr * p2 (ex + 1074).toNat = mg B52 (rg x)) : rg s = rg x := by
  refine mg_inj B52_pos ?_
  rw [h.m, ← hm]; congr 2; omega
end GFl
