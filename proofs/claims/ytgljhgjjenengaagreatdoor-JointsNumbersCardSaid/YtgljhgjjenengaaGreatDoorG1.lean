/- Plain laws: whole numbers as floats, their roots, what the root leaves. No program. -/
import Derived.Test.YtgljhgjjenengaaGreatDoorS3
import Derived.Test.YtgljhgjjenengaaGreatDoorW
namespace GFl
open Ieee Go

theorem word_w (s : Bool) (r : Nat) : W64 (double.word s (min r double.infRung)) := word_lt s r good_double
theorem write_num (s : Bool) (m : Nat) (e : Int) : W64 (double.write (.number s m e)) ∧ neg (double.write (.number s m e)) = s ∧ rg (double.write (.number s m e)) ≤ 9218868437227405312 := by
  obtain ⟨r, _, h⟩ := nearest_rn good_double s m e
  have h' : double.write (.number s m e) = wd s (min r 9218868437227405312) := by rw [← d_inf]; exact h
  have hl : min r 9218868437227405312 < 9223372036854775808 := by omega
  rw [h']
  exact ⟨wd_w hl, wd_neg hl, by rw [wd_rg hl]; omega⟩
theorem write_inf (s : Bool) : double.write (.infinity s) = wd s 9218868437227405312 := by rw [← d_inf]; rfl
/-- A positive float's root. -/
theorem sqrt_pos {x : Nat} (hx : W64 x) (hn : neg x = false) (hf : rg x < 9218868437227405312) : ∃ r, double.sqrt x = some r ∧ W64 r ∧ neg r = false ∧ rg r ≤ 9218868437227405312 := by
  obtain ⟨m, e, hr, _, _, _, _⟩ := read_num (f := double) hx (by rw [d_inf]; exact hf)
  have hs : sgn double x = false := hn
  rw [hs] at hr
  unfold Format.sqrt
  rw [hr]
  by_cases h0 : m = 0
  · refine ⟨_, by simp only [Datum.root, if_pos h0]; rfl, write_num false m e⟩
  · refine ⟨_, by simp only [Datum.root, if_neg h0]; rfl, write_num false _ _⟩
theorem read_fin {x : Nat} (hx : W64 x) (hf : rg x < 9218868437227405312) : ∃ m e, double.read x = .number (neg x) m e := by
  obtain ⟨m, e, hr, _⟩ := read_num (f := double) hx (by rw [d_inf]; exact hf)
  exact ⟨m, e, hr⟩
/-- What is left of x beside r's square. -/
theorem fma_left {r x : Nat} (hr : W64 r) (hn : neg r = false) (hri : rg r ≤ 9218868437227405312) (hx : W64 x) (hf : rg x < 9218868437227405312) : ∃ t, double.fma (fneg r) r x = some t ∧ W64 t ∧ (rg r = 9218868437227405312 → t = wd true 9218868437227405312) := by
  obtain ⟨m, e, ex⟩ := read_fin hx hf
  unfold Format.fma
  rw [ex]
  by_cases h : rg r < 9218868437227405312
  · obtain ⟨m1, e1, er⟩ := read_fin hr h
    obtain ⟨m2, e2, en⟩ := read_fin (fneg_w hr) (by rw [fneg_rg hr]; exact h)
    rw [er, en]
    refine ⟨_, rfl, ?_, fun h' => absurd h (by omega)⟩
    exact (write_num _ _ _).1
  · have h' : rg r = 9218868437227405312 := by omega
    have er : double.read r = .infinity (neg r) := read_inf (f := double) hr (by rw [d_inf]; exact h') good_double
    have en : double.read (fneg r) = .infinity (neg (fneg r)) := read_inf (f := double) (fneg_w hr) (by rw [d_inf]; exact (fneg_rg hr).trans h') good_double
    rw [er, en, fneg_neg hr, hn]
    refine ⟨_, rfl, ?_, fun _ => write_inf true⟩
    show W64 (double.write (.infinity true))
    rw [write_inf]; exact wd_w (by decide)
theorem sub_self64 {x : Nat} (hx : W64 x) (hf : rg x < 9218868437227405312) : double.sub x x = some 0 := by
  obtain ⟨m, e, ex⟩ := read_fin hx hf
  unfold Format.sub
  rw [ex]
  simp only [Datum.opposite, Datum.sum, Option.map_some]
  have h : signed (neg x) m (e - min e e).toNat + signed (!neg x) m (e - min e e).toNat = 0 := by
    unfold signed
    cases neg x <;> simp <;> omega
  rw [h, if_pos rfl]
  have hb : (neg x && !neg x) = false := by cases neg x <;> rfl
  rw [hb]
  show some (double.nearest false 0 (min e e)) = some 0
  unfold Format.nearest
  rw [if_pos rfl]; decide
/-- A whole number as a float. -/
theorem int_float {n : Nat} (h1 : 1 ≤ n) (h2 : n < 9007199254740992) : ∃ x, floatOfInt .f64 (n : Int) = x ∧ W64 x ∧ neg x = false ∧ 4607182418800017408 ≤ rg x ∧ rg x < 4845873199050653696 ∧ mg B52 (rg x) = n * p2 1074 := by
  obtain ⟨z, hz, hw, hn, hf, hm⟩ := ofNat64 h2
  refine ⟨z, ?_, hw, hn, ?_, ?_, hm⟩
  · unfold floatOfInt FloatKind.nearest FloatKind.encode FloatKind.format
    have h1 : ¬ (n : Int) < 0 := by omega
    simp only [h1, decide_false, Int.natAbs_natCast]
    exact hz
  · rw [← mg_le_iff (B := B52) B52_pos, hm]
    have := one_mg
    rw [one_rg] at this
    rw [this]
    exact Nat.le_mul_of_pos_left _ h1
  · rw [← mg_lt_iff (B := B52) B52_pos, hm]
    have e : mg B52 4845873199050653696 = B52 * p2 1075 := mg_B 1076 0 (by decide) (by decide)
    rw [e, show (1075 : Nat) = 1 + 1074 from rfl, p2_add, ← Nat.mul_assoc]
    exact Nat.mul_lt_mul_of_pos_right (by rw [show B52 * p2 1 = 9007199254740992 by decide +kernel]; exact h2) (p2_pos _)
theorem int_float0 : floatOfInt .f64 0 = 0 := by decide
end GFl
