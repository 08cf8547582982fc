import Derived.Test.YtaedkekjekbjmaaDoorEj
import Derived.Deep.LoopGhost
import Derived.Test.YtaedkekjekbjmaaDoorEi
/- What girderref01's Split and bits' Ulp answer. -/
namespace Go.Proofs.YtaedkekjekbjmaaDoor
open Go Go.RowKit GFl
set_option maxRecDepth 100000
attribute [local go_sem] run_f64bits run_f64frombits run_neg_f64
/-- How far the next float of greater size lies. -/
structure IsUlp (x z : Nat) : Prop where
  w : W64 z
  s : neg z = false
  f : rg z < 9218868437227405312
  m : mg B52 (rg z) = p2 (max (rg x / B52) 1 - 1)
theorem IsUlp.unique {x y z : Nat} (h : IsUlp x y) (h' : IsUlp x z) : y = z :=
  w64_ext h.w h'.w (h.s.trans h'.s.symm) (mg_inj B52_pos (h.m.trans h'.m.symm))
theorem splitR_z (x : Nat) (hx : W64 x) (h0 : rg x = 0) (w : World) : Calls Tryd.prog 46 #[.float .f64 x] w fun e w' => e = .returned (.tuple #[.agg #[.bool (neg x), .int .u64 0, .int .i64 0], .bool true]) ∧ Below w.heap.size w w' := by
  have hk : finF x = true := by unfold finF; simp; omega
  go_enter Tryd.func46, Tryd.ntmps46
  go_wp2_with (first | (go_at_call 67; refine (finR_c _ hx _).mono ?_; rintro e w' ⟨rfl, rfl⟩) | (go_at_call 53; refine (fields_c _ hx _).mono ?_; rw [h0]; rintro e w' ⟨rfl, rfl⟩))
  refine wp_loop_rounds 1 ?_
  rw [rounds_succ]
  go_wp2
  refine bodyPost_ret (v := .tuple #[.agg #[.bool (neg x), .int .u64 0, .int .i64 0], .bool true]) (by simp [results, Tryd.results46, go_sem]) rfl ⟨rfl, ?_⟩
  repeat' (first | (with_reducible exact Below.refl _ _) | (with_reducible refine bl_alloc ?_ _) | (with_reducible refine bl_drewN ?_ _) | (with_reducible refine bl_drew ?_) | (with_reducible refine bl_set ?_ _ (by simp)))
def SplitRPost (x : Nat) (w : World) (e : Ending) (w' : World) : Prop := ∃ fr ex, e = .returned (.tuple #[.agg #[.bool (neg x), .int .u64 (fr : Nat), .int .i64 ex], .bool true]) ∧ IsSplit x fr ex ∧ Below w.heap.size w w'
/-- On the way: what is left is even or odd. -/
structure Halv (x f : Nat) (e : Int) : Prop where
  pos : 0 < f
  lo : -1074 ≤ e
  hi : e ≤ 1000000
  eq : f * p2 (e + 1074).toNat = mg B52 (rg x)
theorem halv_next {x f : Nat} {e : Int} (h : Halv x f e) (he : f % 2 = 0) (hx : rg x < 9218868437227405312) : Halv x (f / 2) (e + 1) := by
  have hp := h.pos
  have hl := h.lo
  have key : f / 2 * p2 (e + 1 + 1074).toNat = mg B52 (rg x) := by
    rw [← h.eq]
    have e1 : (e + 1 + 1074).toNat = 1 + (e + 1074).toNat := by omega
    have e2 : p2 1 = 2 := by decide +kernel
    rw [e1, p2_add, e2, ← Nat.mul_assoc]
    congr 1; omega
  refine ⟨by omega, by omega, ?_, key⟩
  have hlt : p2 (e + 1 + 1074).toNat < p2 2099 := by
    have h1 : mg B52 (rg x) < mg B52 9218868437227405312 := (mg_lt_iff B52_pos).2 hx
    rw [mgINF] at h1
    have h2 : B52 = p2 52 := by decide +kernel
    have h3 : p2 52 * p2 2046 = p2 2098 := by rw [← p2_add]
    have h4 : p2 (e + 1 + 1074).toNat ≤ f / 2 * p2 (e + 1 + 1074).toNat := Nat.le_mul_of_pos_left _ (by omega)
    have h5 : p2 2098 ≤ p2 2099 := p2_le (by decide)
    rw [key] at h4
    have h6 : B52 * p2 2046 = p2 2098 := by rw [h2, h3]
    omega
  rcases Nat.lt_or_ge (e + 1 + 1074).toNat 2099 with h7 | h7
  · omega
  · have := p2_le h7; omega
theorem splitR_yes (x : Nat) (hx : W64 x) (h0 : 0 < rg x) (h1 : rg x < 9218868437227405312) (w : World) : Calls Tryd.prog 46 #[.float .f64 x] w (SplitRPost x w) := by
  have hk : finF x = true := by unfold finF; simp; omega
  have ht : rg x % B52 < B52 := Nat.mod_lt _ B52_pos
  have hE : rg x / B52 ≤ 2046 := Nat.le_of_lt_succ (Nat.div_lt_of_lt_mul (by unfold B52; omega))
  have hst : ∃ E t : Nat, Hid (rg x / B52 = E) ∧ Hid (rg x % B52 = t) ∧ E ≤ 2046 ∧ t < 4503599627370496 ∧ (1 ≤ E → Halv x (t + 4503599627370496) ((E : Int) - 1075)) ∧ (¬ 1 ≤ E → Halv x t (-1074)) := by
    refine ⟨_, _, Lib.hid rfl, Lib.hid rfl, hE, ht, ?_, ?_⟩
    · intro hE1
      have hlo : B52 ≤ rg x := (Nat.one_le_div_iff B52_pos).1 hE1
      refine ⟨by omega, by omega, by omega, ?_⟩
      rw [mg_norm hlo, Nat.add_comm]
      congr 2; omega
    · intro hE1
      have hs : rg x < B52 := by rw [Nat.one_le_div_iff B52_pos] at hE1; omega
      have hm : rg x % B52 = rg x := Nat.mod_eq_of_lt hs
      rw [hm]
      refine ⟨h0, by omega, by omega, ?_⟩
      rw [mg_small hs, show ((-1074 : Int) + 1074).toNat = 0 from rfl, p2_zero, Nat.mul_one]
  obtain ⟨E, t, HE, HT, hE2, ht2, hA, hB⟩ := hst
  clear ht hE
  have fin : ∀ f e, Halv x f e → f % 2 = 1 → IsSplit x f e := fun f e h ho => ⟨ho, h.lo, h.eq⟩
  have nx : ∀ f e, Halv x f e → f % 2 = 0 → Halv x (f / 2) (e + 1) := fun f e h he => halv_next h he h1
  have FI := Lib.hid fin
  have NX := Lib.hid nx
  clear fin nx
  by_cases hE1 : 1 ≤ E
  all_goals
    first | have hH := Lib.hid (hA hE1) | have hH := Lib.hid (hB hE1)
    clear hA hB
    have hne : ((t : Int) + 4503599627370496 == 0) = false := by simp; omega
    have hne2 : ¬ 1 ≤ E → ((t : Int) == 0) = false := fun h => by have := (hH.out).pos; simp; omega
    first | have hne3 := hne2 hE1 | skip
    clear hne2
    go_enter Tryd.func46, Tryd.ntmps46
    go_wp2_with (first | (go_at_call 67; refine (finR_c _ hx _).mono ?_; rintro e w' ⟨rfl, rfl⟩) | (go_at_call 53; refine (fields_c _ hx _).mono ?_; rw [HE.out, HT.out]; rintro e w' ⟨rfl, rfl⟩))
    go_loopg [] 9007199254740992 (fun k wr => ∃ (f : Nat) (e : Int), f ≤ k ∧ f < 9007199254740992 ∧ wr = (w.alloc (Obj.cells #[Value.bool false, Value.int IntKind.u64 0, Value.int IntKind.i64 0] 70)).alloc (Obj.cells #[Value.bool (neg x), Value.int IntKind.u64 f, Value.int IntKind.i64 e] 70) ∧ Halv x f e)
    case atStart =>
      first
        | exact ⟨t + 4503599627370496, _, by omega, by omega, by simp, hH.out⟩
        | exact ⟨t, _, by omega, by omega, by simp, hH.out⟩
    case round =>
      obtain ⟨f, e, hf, hf2, rfl, h⟩ := hrel
      have hp := h.pos
      have hlo := h.lo
      have hhi := h.hi
      have hn0 : ((f : Int) != 0) = true := by rw [bne_iff_ne]; omega
      have H := Lib.hid h
      clear h
      by_cases hev : f % 2 = 0
      · have hm : ((f : Int) % 2 == 0) = true := by simp; omega
        have HV := Lib.hid hev
        clear hev
        go_wp2
        go_roundg (f / 2)
        case measure => omega
        case rel => exact ⟨f / 2, e + 1, Nat.le_refl _, by omega, by simp, NX.out f e H.out HV.out⟩
      · have hm : ((f : Int) % 2 == 0) = false := by simp; omega
        have HV := Lib.hid (show f % 2 = 1 by omega)
        clear hev
        go_wp2
        refine bodyPost_ret (v := .tuple #[.agg #[.bool (neg x), .int .u64 f, .int .i64 e], .bool true]) (by simp [results, Tryd.results46, go_sem]) rfl ⟨f, e, rfl, FI.out f e H.out HV.out, ?_⟩
        repeat' (first | (with_reducible exact Below.refl _ _) | (with_reducible refine bl_alloc ?_ _) | (with_reducible refine bl_drewN ?_ _) | (with_reducible refine bl_drew ?_) | (with_reducible refine bl_set ?_ _ (by simp)))
end Go.Proofs.YtaedkekjekbjmaaDoor

/- Plain laws: which parts are a float's, and of which. No program. -/
namespace GFl
open Ieee

/-- Of that float. -/
structure IsJoin (ng : Bool) (fr : Nat) (ex : Int) (z : Nat) : Prop where
  w : W64 z
  s : neg z = ng
  f : rg z < 9218868437227405312
  m : mg B52 (rg z) = fr * p2 (ex + 1074).toNat
theorem IsJoin.unique {ng : Bool} {fr : Nat} {ex : Int} {y z : Nat} (h : IsJoin ng fr ex y) (h' : IsJoin ng fr ex z) : y = z :=
  w64_ext h.w h'.w (h.s.trans h'.s.symm) (mg_inj B52_pos (h.m.trans h'.m.symm))

theorem p2_lt {a b : Nat} (h : p2 a < p2 b) : a < b := by
  rcases Nat.lt_or_ge a b with h1 | h1
  · exact h1
  · have := p2_le h1; omega
/-- A whole number of at most 53 digits as a float. -/
theorem ofNat64 {n : Nat} (h : n < 9007199254740992) : ∃ z, double.write (.number false n 0) = z ∧ W64 z ∧ neg z = false ∧ rg z < 9218868437227405312 ∧ mg B52 (rg z) = n * p2 1074 := by
  obtain ⟨r, hr, e⟩ := nearest_rn good_double false n 0
  obtain ⟨q, hq⟩ := rep (B := B52) n 1074 (by unfold B52; omega)
  have e1 : ((0 : Int) - double.leastPlace).toNat = 1074 := by decide
  have e2 : (double.leastPlace - 0).toNat = 0 := by decide
  rw [d_b, ← p2_def, ← p2_def, e1, e2, p2_zero] at hr
  have hrq : r = q := rn_exact B52_pos Nat.one_pos hr (by rw [hq, Nat.mul_one])
  have hhi : q < 9218868437227405312 := by
    rw [← mg_lt_iff (B := B52) B52_pos, hq, mgINF]
    have h2 : B52 * p2 2046 = p2 2098 := by rw [show B52 = p2 52 from by decide +kernel, ← p2_add]
    have h3 : (9007199254740992 : Nat) = p2 53 := by decide +kernel
    rw [h2]
    refine Nat.lt_of_lt_of_le (Nat.mul_lt_mul_of_pos_right (h3 ▸ h) (p2_pos _)) ?_
    rw [← p2_add]; exact p2_le (by decide)
  have hq63 : q < 9223372036854775808 := by omega
  refine ⟨wd false q, ?_, wd_w hq63, wd_neg hq63, by rw [wd_rg hq63]; exact hhi, by rw [wd_rg hq63]; exact hq⟩
  show double.nearest false n 0 = _
  rw [e, hrq, d_inf, Nat.min_eq_left (Nat.le_of_lt hhi)]; rfl
end GFl

/- The quotient of two finite words, as the model rounds it. -/
namespace GFl
open Ieee Ieee.Format
section
variable {f : Format}

theorem sticky_le {D n c : Nat} (hn : 0 < n) : 2 * (D / n) + (D % n != 0).toNat ≤ 2 * c ↔ D ≤ c * n := by
  have h1 := Nat.div_add_mod D n
  have h2 := Nat.mod_lt D hn
  rcases Nat.eq_zero_or_pos (D % n) with h0 | h0
  · rw [h0] at h1 ⊢
    simp only [bne_self_eq_false, Bool.toNat_false, Nat.add_zero] at h1 ⊢
    rw [← h1, Nat.mul_comm n]
    constructor
    · intro h; rw [Nat.mul_div_cancel _ hn] at h; exact Nat.mul_le_mul_right _ (by omega)
    · intro h; have := Nat.le_of_mul_le_mul_right h hn; rw [Nat.mul_div_cancel _ hn]; omega
  · have e : (D % n != 0) = true := by simp; omega
    rw [e]
    simp only [Bool.toNat_true]
    constructor
    · intro h
      have : (D / n + 1) * n ≤ c * n := Nat.mul_le_mul_right _ (by omega)
      rw [Nat.add_mul, Nat.mul_comm (D / n)] at this; omega
    · intro h
      by_cases hc : D / n + 1 ≤ c
      · omega
      · have : c * n ≤ (D / n) * n := Nat.mul_le_mul_right _ (by omega)
        rw [Nat.mul_comm (D / n)] at this; omega
theorem sticky_ge {D n c : Nat} (hn : 0 < n) : 2 * c ≤ 2 * (D / n) + (D % n != 0).toNat ↔ c * n ≤ D := by
  rw [← Nat.le_div_iff_mul_le hn]
  have : (D % n != 0).toNat ≤ 1 := by cases (D % n != 0) <;> simp
  omega

/-- The middle of two neighbours: an odd number below 4 B, times a power of two. -/
theorem mid_form {B : Nat} (hB : 0 < B) (k : Nat) : ∃ u e, mg B k + mg B (k + 1) = u * 2 ^ e ∧ u < 4 * B := by
  rw [mg_succ _ _ hB]
  by_cases h : k < B
  · rw [mg_small h, ulp_small h]
    exact ⟨2 * k + 1, 0, by simp; omega, by omega⟩
  · have hk := Nat.div_add_mod k B
    have hm := Nat.mod_lt k hB
    have hd : 1 ≤ k / B := (Nat.one_le_div_iff hB).2 (by omega)
    have e : k = (k / B - 1 + 1) * B + k % B := by rw [Nat.sub_add_cancel hd, Nat.mul_comm]; exact hk.symm
    rw [e, mg_eq _ _ _ hm, ulp_eq _ _ _ hm]
    refine ⟨2 * (B + k % B) + 1, k / B - 1, ?_, by omega⟩
    generalize B + k % B = b
    rw [Nat.add_mul, Nat.mul_assoc, Nat.one_mul]; omega

theorem mid_dich {B q : Nat} (hB : 0 < B) (hq : 2 * B ≤ q) (a b k : Nat) : (∃ c, (mg B k + mg B (k + 1)) * 2 ^ b = 4 * 2 ^ a * c) ∨ (mg B k + mg B (k + 1)) * 2 ^ b < 4 * 2 ^ a * q := by
  obtain ⟨u, e, h, hu⟩ := mid_form hB k
  rw [h, Nat.mul_assoc, ← Nat.pow_add]
  by_cases hc : a + 2 ≤ e + b
  · refine .inl ⟨u * 2 ^ (e + b - (a + 2)), ?_⟩
    have : 4 * 2 ^ a = 2 ^ (a + 2) := by rw [Nat.pow_add, Nat.mul_comm]
    rw [this, Nat.mul_left_comm, ← Nat.pow_add]
    congr 2; omega
  · refine .inr ?_
    have h1 : 2 ^ (e + b) ≤ 2 ^ (a + 1) := Nat.pow_le_pow_right (by decide) (by omega)
    rw [Nat.pow_succ] at h1
    have h2 : u * 2 ^ (e + b) ≤ u * (2 ^ a * 2) := Nat.mul_le_mul_left _ h1
    have h3 : u * (2 ^ a * 2) < 4 * B * (2 ^ a * 2) := Nat.mul_lt_mul_of_pos_right hu (by have := Nat.two_pow_pos a; omega)
    have h4 : 4 * 2 ^ a * (2 * B) ≤ 4 * 2 ^ a * q := Nat.mul_le_mul_left _ hq
    have h5 : 4 * B * (2 ^ a * 2) = 4 * 2 ^ a * (2 * B) := by rw [Nat.mul_assoc 4 B, Nat.mul_assoc 4 (2 ^ a), Nat.mul_left_comm B, Nat.mul_comm B 2]
    omega

theorem sticky_mid {B D n : Nat} (hB : 0 < B) (hn : 0 < n) (hq : 2 * B ≤ D / n) (a b k : Nat) :
    (2 * ((2 * (D / n) + (D % n != 0).toNat) * 2 ^ a) ≤ (mg B k + mg B (k + 1)) * 2 ^ b ↔ 2 * (2 * D * 2 ^ a) ≤ (mg B k + mg B (k + 1)) * (n * 2 ^ b)) ∧
    ((mg B k + mg B (k + 1)) * 2 ^ b ≤ 2 * ((2 * (D / n) + (D % n != 0).toNat) * 2 ^ a) ↔ (mg B k + mg B (k + 1)) * (n * 2 ^ b) ≤ 2 * (2 * D * 2 ^ a)) := by
  have ha := Nat.two_pow_pos a
  have eS : ∀ S, 2 * (S * 2 ^ a) = 2 * 2 ^ a * S := fun S => by rw [Nat.mul_comm S, Nat.mul_assoc]
  have eD : 2 * (2 * D * 2 ^ a) = 4 * 2 ^ a * D := by rw [Nat.mul_comm (2 * D), ← Nat.mul_assoc, ← Nat.mul_assoc, Nat.mul_right_comm 2, ]
  have eM : (mg B k + mg B (k + 1)) * (n * 2 ^ b) = (mg B k + mg B (k + 1)) * 2 ^ b * n := by rw [Nat.mul_comm n, Nat.mul_assoc]
  have e4 : ∀ c, 4 * 2 ^ a * c = 2 * 2 ^ a * (2 * c) := fun c => by
    rw [← Nat.mul_assoc (2 * 2 ^ a)]
    congr 1
    omega
  rw [eS, eD, eM]
  rcases mid_dich hB hq a b k with ⟨c, hc⟩ | hlt
  · rw [hc]
    have h4 : 0 < 4 * 2 ^ a := by omega
    have h2 : 0 < 2 * 2 ^ a := by omega
    rw [Nat.mul_assoc (4 * 2 ^ a)]
    constructor
    · rw [e4 c, Nat.mul_le_mul_left_iff h2, sticky_le hn, Nat.mul_le_mul_left_iff h4]
    · rw [e4 c, Nat.mul_le_mul_left_iff h2, sticky_ge hn, Nat.mul_le_mul_left_iff h4]
  · generalize (mg B k + mg B (k + 1)) * 2 ^ b = M at *
    have s1 : 4 * 2 ^ a * (D / n) ≤ 2 * 2 ^ a * (2 * (D / n) + (D % n != 0).toNat) := by rw [e4]; exact Nat.mul_le_mul_left _ (by omega)
    have s2 : M * n < 4 * 2 ^ a * D := by
      have t1 : M * n < 4 * 2 ^ a * (D / n) * n := Nat.mul_lt_mul_of_pos_right hlt hn
      have t2 : 4 * 2 ^ a * (D / n) * n ≤ 4 * 2 ^ a * D := by rw [Nat.mul_assoc]; exact Nat.mul_le_mul_left _ (Nat.div_mul_le_self D n)
      omega
    generalize 2 * 2 ^ a * (2 * (D / n) + (D % n != 0).toNat) = S at *
    constructor <;> constructor <;> intro h <;> omega

theorem IsRn.sticky {B D n a b r : Nat} (hB : 0 < B) (hn : 0 < n) (hq : 2 * B ≤ D / n) (h : IsRn B ((2 * (D / n) + (D % n != 0).toNat) * 2 ^ a) (2 ^ b) r) : IsRn B (2 * D * 2 ^ a) (n * 2 ^ b) r := by
  refine ⟨?_, ?_, ?_, ?_⟩
  · exact (sticky_mid hB hn hq a b r).1.1 h.up
  · intro e
    have m := sticky_mid hB hn hq a b r
    exact h.upe (Nat.le_antisymm (m.1.2 (Nat.le_of_eq e)) (m.2.2 (Nat.le_of_eq e.symm)))
  · rintro q rfl
    exact (sticky_mid hB hn hq a b q).2.1 (h.dn q rfl)
  · intro q hq' e
    subst hq'
    have m := sticky_mid hB hn hq a b q
    exact h.dne q rfl (Nat.le_antisymm (m.2.2 (Nat.le_of_eq e)) (m.1.2 (Nat.le_of_eq e.symm)))

/-- The quotient of two finite words, the lower not nought. -/
theorem div_fin (g : Good f) {x y : Nat} (hx : x < 2 ^ f.width) (hy : y < 2 ^ f.width) (hx1 : rung f x < f.infRung) (hy1 : rung f y < f.infRung) (hy0 : rung f y ≠ 0) (hL : f.leastPlace ≤ 0) :
    ∃ r, IsRn f.binade (mg f.binade (rung f x) * 2 ^ (-f.leastPlace).toNat) (mg f.binade (rung f y)) r ∧
      f.div x y = some (f.word (sgn f x ^^ sgn f y) (min r f.infRung)) := by
  have hB := binade_pos f
  obtain ⟨m, i, e1, li, hm, _, hm0⟩ := read_num hx hx1
  obtain ⟨n, j, e2, lj, hn, _, hn0⟩ := read_num hy hy1
  have hnz : n ≠ 0 := fun h => hy0 (hn0.1 h)
  unfold Format.div
  rw [e1, e2]
  simp only [Datum.quotient, if_neg hnz, Option.map_some, Format.write]
  rw [Nat.shiftLeft_eq]
  generalize hmore : f.fractionBits + 2 + n.log2 - m.log2 = more
  obtain ⟨r, hr, hw⟩ := nearest_rn g (sgn f x ^^ sgn f y) (2 * (m * 2 ^ more / n) + (m * 2 ^ more % n != 0).toNat) (i - j - more - 1)
  refine ⟨r, ?_, by rw [hw]⟩
  have hmy : 0 < mg f.binade (rung f y) := by rw [← hn]; exact Nat.mul_pos (Nat.pos_of_ne_zero hnz) (Nat.two_pow_pos _)
  by_cases hmz : m = 0
  · subst hmz
    rw [Nat.zero_mul] at hm hr
    rw [← hm, Nat.zero_mul]
    simp only [Nat.zero_div, Nat.mul_zero, Nat.zero_mod, bne_self_eq_false, Bool.toNat_false, Nat.add_zero, Nat.zero_mul] at hr
    rw [hr.unique hB (Nat.two_pow_pos _) (IsRn.zero hB (Nat.two_pow_pos _))]
    exact IsRn.zero hB hmy
  have hq : 2 * f.binade ≤ m * 2 ^ more / n := by
    rw [Nat.le_div_iff_mul_le (Nat.pos_of_ne_zero hnz)]
    have h1 : n < 2 ^ (n.log2 + 1) := Nat.lt_log2_self
    have h2 : 2 ^ m.log2 ≤ m := Nat.log2_self_le hmz
    have h3 : 2 ^ m.log2 * 2 ^ more ≤ m * 2 ^ more := Nat.mul_le_mul_right _ h2
    rw [← Nat.pow_add] at h3
    have h4 : 2 ^ (f.fractionBits + 1 + (n.log2 + 1)) ≤ 2 ^ (m.log2 + more) := Nat.pow_le_pow_right (by decide) (by omega)
    have h5 : 2 * f.binade * n ≤ 2 * f.binade * 2 ^ (n.log2 + 1) := Nat.mul_le_mul_left _ (Nat.le_of_lt h1)
    have h6 : 2 * f.binade = 2 ^ (f.fractionBits + 1) := by rw [Nat.pow_succ, Nat.mul_comm]; rfl
    rw [Nat.pow_add, ← h6] at h4
    omega
  refine (hr.sticky hB (Nat.pos_of_ne_zero hnz) hq).cross (Nat.mul_pos (Nat.pos_of_ne_zero hnz) (Nat.two_pow_pos _)) hmy ?_
  rw [← hm, ← hn]
  have c1 : 2 * (m * 2 ^ more) * 2 ^ (i - j - more - 1 - f.leastPlace).toNat * (n * 2 ^ (j - f.leastPlace).toNat) = m * n * (2 ^ (1 + more + (i - j - more - 1 - f.leastPlace).toNat + (j - f.leastPlace).toNat)) := by
    rw [Nat.pow_add, Nat.pow_add, Nat.pow_add]
    generalize 2 ^ more = A
    generalize 2 ^ (i - j - more - 1 - f.leastPlace).toNat = A'
    generalize 2 ^ (j - f.leastPlace).toNat = A''
    simp only [Nat.pow_one, Nat.mul_assoc, Nat.mul_comm, Nat.mul_left_comm]
  have c2 : m * 2 ^ (i - f.leastPlace).toNat * 2 ^ (-f.leastPlace).toNat * (n * 2 ^ (f.leastPlace - (i - j - more - 1)).toNat) = m * n * (2 ^ ((i - f.leastPlace).toNat + (-f.leastPlace).toNat + (f.leastPlace - (i - j - more - 1)).toNat)) := by
    rw [Nat.pow_add, Nat.pow_add]
    generalize 2 ^ (i - f.leastPlace).toNat = A
    generalize 2 ^ (-f.leastPlace).toNat = A'
    generalize 2 ^ (f.leastPlace - (i - j - more - 1)).toNat = A''
    simp only [Nat.mul_comm, Nat.mul_left_comm]
  rw [c1, c2]
  congr 2
  omega
end
end GFl

/- Differences, halves and doubles of float64s; the middle of two neighbours; what lies between them. Plain. -/
namespace GFl
open Ieee

theorem read_fneg {y : Nat} (hy : W64 y) : double.read (fneg y) = (double.read y).opposite := by
  have h1 : W64 (fneg y) := fneg_w hy
  have r : fneg y % double.signWeight = y % double.signWeight := fneg_rg hy
  have s : (fneg y / double.signWeight % 2 == 1) = !(y / double.signWeight % 2 == 1) := by rw [sgn_eq h1, sgn_eq hy]; exact fneg_neg hy
  unfold Format.read
  simp only [r, s]
  (repeat' split) <;> rfl
theorem sub_add {x y : Nat} (hy : W64 y) : double.sub x y = double.add x (fneg y) := by unfold Format.sub Format.add; rw [read_fneg hy]
/-- The difference of two finite float64s. -/
theorem sub64 {x y : Nat} (hx : W64 x) (hy : W64 y) (hx1 : rg x < 9218868437227405312) (hy1 : rg y < 9218868437227405312) :
    ∃ r, IsRn 4503599627370496 (val x - val y).natAbs 1 r ∧
      double.sub x y = some (wd (if val x - val y = 0 then neg x && !neg y else decide (val x - val y < 0)) (min r 9218868437227405312)) := by
  have h := add64 hx (fneg_w hy) hx1 (by rw [fneg_rg hy]; exact hy1)
  rw [fneg_val hy, fneg_neg hy, ← Int.sub_eq_add_neg] at h
  rw [sub_add hy]
  exact h
theorem sub_self_fin {x : Nat} (hx : W64 x) (h : rg x < 9218868437227405312) : double.sub x x = some 0 := by
  obtain ⟨r, hr, e⟩ := sub64 hx hx h h
  rw [Int.sub_self, Int.natAbs_zero] at hr
  rw [e, hr.unique B52_pos (by decide) (IsRn.zero B52_pos (by decide)), Int.sub_self, if_pos rfl]
  cases neg x <;> decide
theorem sub_self_no {x : Nat} (hx : W64 x) (h : 9218868437227405312 ≤ rg x) : double.sub x x = none := by
  unfold Format.sub
  rcases Nat.lt_or_eq_of_le h with h1 | h1
  · rw [read_nan hx (by rw [d_inf]; exact h1) good_double]; rfl
  · rw [read_inf hx (by rw [d_inf]; exact h1.symm) good_double]
    cases sgn double x <;> rfl

/-- The quotient of two finite float64s. -/
theorem div64 {x y : Nat} (hx : W64 x) (hy : W64 y) (hx1 : rg x < 9218868437227405312) (hy1 : rg y < 9218868437227405312) (hy0 : rg y ≠ 0) :
    ∃ r, IsRn 4503599627370496 (mg 4503599627370496 (rg x) * p2 1074) (mg 4503599627370496 (rg y)) r ∧ double.div x y = some (wd (neg x ^^ neg y) (min r 9218868437227405312)) := by
  have h := div_fin good_double hx hy (by rw [d_inf]; exact hx1) (by rw [d_inf]; exact hy1) hy0 (by decide)
  have e : (-double.leastPlace).toNat = 1074 := by decide
  rw [d_b, ← p2_def, e, d_inf] at h
  exact h
theorem two_rg : rg 4611686018427387904 = 4611686018427387904 := by decide
theorem two_mg : mg B52 (rg 4611686018427387904) = p2 1074 * 2 := by rw [two_rg]; decide +kernel
theorem two_neg : neg 4611686018427387904 = false := by decide
theorem two_w : W64 4611686018427387904 := w_const (by decide)
theorem half64 {x q : Nat} (hx : W64 x) (hx1 : rg x < 9218868437227405312) (hq : q ≤ 9218868437227405312) (h : mg B52 (rg x) = 2 * mg B52 q) : double.div x 4611686018427387904 = some (wd (neg x) q) := by
  obtain ⟨r, hr, e⟩ := div64 hx two_w hx1 (by rw [two_rg]; decide) (by rw [two_rg]; decide)
  rw [two_mg, h] at hr
  have := p2_pos 1074
  rw [e, rn_exact B52_pos (by omega) hr (q := q) (by rw [Nat.mul_comm 2, Nat.mul_assoc, Nat.mul_comm 2]), two_neg, Bool.xor_false, Nat.min_eq_left hq]
theorem dbl64 {x q : Nat} (hx : W64 x) (hx1 : rg x < 9218868437227405312) (hq : q ≤ 9218868437227405312) (h : 2 * mg B52 (rg x) = mg B52 q) : double.mul x 4611686018427387904 = some (wd (neg x) q) := by
  obtain ⟨r, hr, e⟩ := mul64 hx two_w hx1 (by rw [two_rg]; decide)
  rw [two_mg] at hr
  rw [e, rn_exact B52_pos (p2_pos 1074) hr (q := q) (by rw [← h, Nat.mul_comm (p2 1074), ← Nat.mul_assoc, Nat.mul_comm 2]), two_neg, Bool.xor_false, Nat.min_eq_left hq]

end GFl

/- Plain floats: quotients and differences where no NaN comes; sturm.Count as a list's count. -/
namespace GFl
open Ieee
/-- A float that is no NaN. -/
structure Nn (x : Nat) : Prop where
  w : W64 x
  r : rg x ≤ 9218868437227405312
theorem Nn.isn {x : Nat} (h : Nn x) : GFl.isn x = false := by rw [isn_eq]; have := h.r; simp; omega
theorem wd_nn (s : Bool) {r : Nat} (h : r ≤ 9218868437227405312) : Nn (wd s r) := ⟨wd_w (by omega), by rw [wd_rg (by omega)]; exact h⟩
theorem read_n {x : Nat} (hx : W64 x) (h : rg x < 9218868437227405312) : ∃ m e, double.read x = .number (neg x) m e := by
  obtain ⟨m, e, h1, _⟩ := read_num (f := double) hx (by rw [d_inf]; exact h)
  exact ⟨m, e, h1⟩
theorem read_i {x : Nat} (hx : W64 x) (h : rg x = 9218868437227405312) : double.read x = .infinity (neg x) := read_inf hx (by rw [d_inf]; exact h) good_double
theorem write_i (s : Bool) : double.write (.infinity s) = wd s 9218868437227405312 := by rw [← d_inf]; rfl
theorem div_nn {x d : Nat} (hx : W64 x) (h1 : rg x < 9218868437227405312) (hd : Nn d) (h0 : rg d ≠ 0) : ∃ z, double.div x d = some z ∧ Nn z := by
  rcases Nat.lt_or_ge (rg d) 9218868437227405312 with h | h
  · obtain ⟨r, _, e⟩ := div64 hx hd.w h1 h h0
    exact ⟨_, e, wd_nn _ (Nat.min_le_right _ _)⟩
  · have hi : rg d = 9218868437227405312 := Nat.le_antisymm hd.r h
    obtain ⟨m, e, hr⟩ := read_n hx h1
    have e2 : double.div x d = some (double.write (.number (neg x ^^ neg d) 0 0)) := by
      unfold Format.div
      rw [hr, read_i hd.w hi]; rfl
    refine ⟨_, e2, ?_⟩
    cases (neg x ^^ neg d) <;> exact ⟨w_const (by decide), by decide⟩
theorem sub_nn {x y : Nat} (hx : W64 x) (h1 : rg x < 9218868437227405312) (hy : Nn y) : ∃ z, double.sub x y = some z ∧ Nn z := by
  rcases Nat.lt_or_ge (rg y) 9218868437227405312 with h | h
  · obtain ⟨r, _, e⟩ := sub64 hx hy.w h1 h
    exact ⟨_, e, wd_nn _ (Nat.min_le_right _ _)⟩
  · have hi : rg y = 9218868437227405312 := Nat.le_antisymm hy.r h
    obtain ⟨m, e, hr⟩ := read_n hx h1
    have e2 : double.sub x y = some (wd (!neg y) 9218868437227405312) := by
      unfold Format.sub
      rw [hr, read_i hy.w hi, ← write_i]; rfl
    exact ⟨_, e2, wd_nn _ (Nat.le_refl _)⟩
def fsub (x y : Nat) : Nat := (double.sub x y).getD 0
def fadd (x y : Nat) : Nat := (double.add x y).getD 0
def fmul (x y : Nat) : Nat := (double.mul x y).getD 0
def fdiv (x y : Nat) : Nat := (double.div x y).getD 0
theorem fsub_of {x y z : Nat} (h : double.sub x y = some z) : fsub x y = z := by unfold fsub; rw [h]; rfl
theorem fadd_of {x y z : Nat} (h : double.add x y = some z) : fadd x y = z := by unfold fadd; rw [h]; rfl
theorem fmul_of {x y z : Nat} (h : double.mul x y = some z) : fmul x y = z := by unfold fmul; rw [h]; rfl
theorem fdiv_of {x y z : Nat} (h : double.div x y = some z) : fdiv x y = z := by unfold fdiv; rw [h]; rfl
theorem mgP {E : Nat} (h : 1 ≤ E) : mg B52 (E * B52) = p2 52 * p2 (E - 1) := by
  have := mg_B E 0 h B52_pos
  rw [Nat.add_zero, Nat.add_zero] at this
  rw [this]
  have e : B52 = p2 52 := by rw [p2_def]
  rw [← e]
/-- Below a power of two. -/
theorem rn_below {N D r E : Nat} (hD : 0 < D) (h : IsRn B52 N D r) (hE : 1 ≤ E) (hb : N ≤ p2 52 * p2 (E - 1) * D) : r ≤ E * B52 := rn_le B52_pos hD h (by rw [mgP hE]; exact hb)
theorem natAbs_val (x : Nat) : (val x).natAbs = mg B52 (rg x) := by
  rw [val_eq']
  show (if neg x = true then -((mg B52 (rg x) : Nat) : Int) else ((mg B52 (rg x) : Nat) : Int)).natAbs = mg B52 (rg x)
  generalize mg B52 (rg x) = m
  split <;> omega
theorem p2_suc (n : Nat) : p2 (n + 1) = p2 n * 2 := by rw [p2_def, p2_def, Nat.pow_succ]
/-- A chain's number less a place: finite. -/
theorem sub_fin {a x : Nat} (ha : W64 a) (hx : W64 x) (h1 : rg a ≤ 6867989431740006400) (h2 : rg x ≤ 6867989431740006400) : ∃ z, double.sub a x = some z ∧ Nn z ∧ rg z ≤ 1526 * B52 := by
  obtain ⟨r, hr, e⟩ := sub64 ha hx (by omega) (by omega)
  have hm : mg B52 6867989431740006400 = p2 52 * p2 1524 := by
    have := mgP (E := 1525) (by omega)
    exact this
  have m1 := mg_mono (B := B52) B52_pos h1
  have m2 := mg_mono (B := B52) B52_pos h2
  rw [hm] at m1 m2
  have b : r ≤ 1526 * B52 := by
    refine rn_below (by decide) hr (by omega) ?_
    have e1 : p2 52 * p2 (1526 - 1) = 2 * (p2 52 * p2 1524) := by
      rw [show (1526 - 1 : Nat) = 1524 + 1 from rfl, p2_suc 1524, ← Nat.mul_assoc, Nat.mul_comm]
    rw [e1, Nat.mul_one]
    have a1 := natAbs_val a
    have a2 := natAbs_val x
    omega
  have b2 : r ≤ 9218868437227405312 := Nat.le_trans b (by decide)
  refine ⟨_, e, wd_nn _ (Nat.min_le_right _ _), ?_⟩
  rw [Nat.min_eq_left b2, wd_rg (by omega)]
  exact b
theorem sq_fin {b : Nat} (hb : W64 b) (h1 : rg b ≤ 6858982232485265408) : ∃ z, double.mul b b = some z ∧ W64 z ∧ neg z = false ∧ rg z ≤ 2023 * B52 := by
  obtain ⟨r, hr, e⟩ := mul64 hb hb (by omega) (by omega)
  have hm : mg B52 6858982232485265408 = p2 52 * p2 1522 := by
    have := mgP (E := 1523) (by omega)
    exact this
  have m1 := mg_mono (B := B52) B52_pos h1
  rw [hm] at m1
  have bnd : r ≤ 2023 * B52 := by
    refine rn_below (p2_pos _) hr (by omega) ?_
    have h2 := Nat.mul_le_mul m1 m1
    refine Nat.le_trans h2 (Nat.le_of_eq ?_)
    rw [← p2_add, ← p2_add, ← p2_add, ← p2_add]
  have b2 : r ≤ 9218868437227405312 := Nat.le_trans bnd (by decide)
  have b3 : r < 9223372036854775808 := by omega
  refine ⟨_, e, wd_w (by rw [Nat.min_eq_left b2]; exact b3), ?_, ?_⟩
  · rw [Bool.xor_self, wd_neg (by rw [Nat.min_eq_left b2]; exact b3)]
  · rw [Nat.min_eq_left b2, wd_rg b3]; exact bnd
/-- One row's pivot. -/
def piv (x a : Nat) (b : Option Nat) (d : Nat) : Nat := match b with
  | none => fsub a x
  | some b => fsub (fsub a x) (fdiv (fmul b b) d)
def fix (n : Nat) : Nat := if rg n = 0 then 9223372036854775809 else n
def cF (x : Nat) : List (Nat × Option Nat) → Nat → Int
  | [], _ => 0
  | (a, b) :: r, d => (if neg (fix (piv x a b d)) then 1 else 0) + cF x r (fix (piv x a b d))
theorem cF_cons (x a : Nat) (b : Option Nat) (r : List (Nat × Option Nat)) (d : Nat) : cF x ((a, b) :: r) d = (if neg (fix (piv x a b d)) then 1 else 0) + cF x r (fix (piv x a b d)) := rfl
def cR : Option Nat → List Nat → List Nat → List (Nat × Option Nat)
  | _, [], _ => []
  | p, a :: d, o => (a, p) :: cR o.head? d o.tail
/-- How many are below, in floats. -/
def cntF (x : Nat) (d o : List Nat) : Int := cF x (cR none d o) 0
theorem cR_len : ∀ (d : List Nat) (p : Option Nat) (o : List Nat), (cR p d o).length = d.length := by
  intro d
  induction d with
  | nil => intro p o; rfl
  | cons a d ih => intro p o; show _ + 1 = _ + 1; rw [ih]
theorem cR_drop : ∀ (k : Nat) (d : List Nat) (p : Option Nat) (o : List Nat) (hk : k < d.length), d.length = o.length + 1 →
    ∃ y, (k = 0 → y = p) ∧ (0 < k → ∃ h' : k - 1 < o.length, y = some o[k - 1]) ∧ (cR p d o).drop k = (d[k], y) :: (cR p d o).drop (k + 1) := by
  intro k
  induction k with
  | zero =>
    intro d p o hk hl
    cases d with
    | nil => simp at hk
    | cons a d => exact ⟨p, fun _ => rfl, fun h => absurd h (by decide), rfl⟩
  | succ k ih =>
    intro d p o hk hl
    cases d with
    | nil => simp at hk
    | cons a d =>
      cases o with
      | nil =>
        have : d = [] := List.eq_nil_of_length_eq_zero (by simpa using hl)
        subst this
        simp at hk
      | cons z o =>
        obtain ⟨y, h1, h2, h3⟩ := ih d (some z) o (by simpa using hk) (by simpa using hl)
        refine ⟨y, fun h => (by cases h), fun _ => ?_, ?_⟩
        · cases k with
          | zero => exact ⟨by simp, h1 rfl⟩
          | succ k =>
            obtain ⟨h4, h5⟩ := h2 (Nat.succ_pos _)
            exact ⟨by simp at h4 ⊢; omega, by simpa using h5⟩
        · show (cR (some z) d o).drop k = _
          rw [h3]; simp [cR]
theorem fix_nn {n : Nat} (h : Nn n) : Nn (fix n) ∧ rg (fix n) ≠ 0 := by
  unfold fix
  by_cases h0 : rg n = 0
  · rw [if_pos h0]; exact ⟨⟨w_const (by decide), by decide⟩, by decide⟩
  · rw [if_neg h0]; exact ⟨h, h0⟩
end GFl

/- Plain floats: a chord's numbers. -/
namespace GFl
open Ieee
/-- A length or a prop: from 2^-60 to 2^60. -/
structure Bt (x : Nat) : Prop where
  w : W64 x
  n : neg x = false
  lo : 4336966441157787648 ≤ rg x
  hi : rg x ≤ 4877398396442247168
/-- A push: from 0 to 2^60. -/
structure Ps (x : Nat) : Prop where
  w : W64 x
  hi : rg x ≤ 4877398396442247168
  pos : plc x = rg x
theorem mg60 : mg B52 4877398396442247168 = p2 52 * p2 1082 := mgP (E := 1083) (by omega)
theorem mg60n : mg B52 4336966441157787648 = p2 52 * p2 962 := mgP (E := 963) (by omega)
theorem wd_fin {s : Bool} {r E : Nat} (h : r ≤ E * B52) (hE : E * B52 < 9218868437227405312) : Nn (wd s (min r 9218868437227405312)) ∧ rg (wd s (min r 9218868437227405312)) ≤ E * B52 := by
  have h1 : r ≤ 9218868437227405312 := Nat.le_trans h (Nat.le_of_lt hE)
  refine ⟨wd_nn _ (Nat.min_le_right _ _), ?_⟩
  rw [Nat.min_eq_left h1, wd_rg (by omega)]
  exact h
/-- A push over a length. -/
theorem quo_ok {s y : Nat} (hs : Ps s) (hy : Bt y) : double.div s y = some (fdiv s y) ∧ Nn (fdiv s y) ∧ rg (fdiv s y) ≤ 1143 * B52 ∧ (neg s = false → neg (fdiv s y) = false) := by
  have hh := hs.hi
  have hl := hy.lo
  have hi := hy.hi
  obtain ⟨r, hr, e⟩ := div64 hs.w hy.w (by omega) (by omega) (by omega)
  have m1 := mg_mono (B := B52) B52_pos hh
  have m2 := mg_mono (B := B52) B52_pos hl
  rw [mg60] at m1
  rw [mg60n] at m2
  have hpos : 0 < mg B52 (rg y) := Nat.lt_of_lt_of_le (Nat.mul_pos (p2_pos _) (p2_pos _)) m2
  have b : r ≤ 1143 * B52 := by
    refine rn_below hpos hr (by omega) ?_
    have h1 : mg B52 (rg s) * p2 1074 ≤ p2 52 * p2 1082 * p2 1074 := Nat.mul_le_mul_right _ m1
    have h2 : p2 52 * p2 (1143 - 1) * (p2 52 * p2 962) ≤ p2 52 * p2 (1143 - 1) * mg B52 (rg y) := Nat.mul_le_mul_left _ m2
    refine Nat.le_trans h1 (Nat.le_trans (Nat.le_of_eq ?_) h2)
    rw [← p2_add, ← p2_add, ← p2_add, ← p2_add, ← p2_add]
  obtain ⟨n1, n2⟩ := wd_fin (s := neg s ^^ neg y) b (by decide)
  rw [fdiv_of e]
  refine ⟨e, n1, n2, fun h => ?_⟩
  rw [h, hy.n, wd_neg (by have := Nat.min_le_right r 9218868437227405312; omega)]; rfl
theorem mgE {E r : Nat} (h1 : 1 ≤ E) (h : r ≤ E * B52) : mg B52 r ≤ p2 52 * p2 (E - 1) := by
  have := mg_mono (B := B52) B52_pos h
  rwa [mgP h1] at this
theorem add_ok {a b : Nat} (ha : Nn a) (hb : Nn b) (h1 : rg a ≤ 1143 * B52) (h2 : rg b ≤ 1143 * B52) : double.add a b = some (fadd a b) ∧ Nn (fadd a b) ∧ rg (fadd a b) ≤ 1144 * B52 := by
  have hB : 1143 * B52 < 9218868437227405312 := by decide
  obtain ⟨r, hr, e⟩ := add64 ha.w hb.w (by omega) (by omega)
  have b : r ≤ 1144 * B52 := by
    refine rn_below (by decide) hr (by omega) ?_
    have m1 := mgE (by omega) h1
    have m2 := mgE (by omega) h2
    have a1 := natAbs_val a
    have a2 := natAbs_val b
    have e1 : p2 52 * p2 (1144 - 1) = 2 * (p2 52 * p2 (1143 - 1)) := by
      rw [show (1144 - 1 : Nat) = 1142 + 1 from rfl, p2_suc 1142, ← Nat.mul_assoc, Nat.mul_comm]
    rw [e1, Nat.mul_one]
    omega
  obtain ⟨n1, n2⟩ := wd_fin (s := _) b (by decide)
  rw [fadd_of e]
  exact ⟨e, n1, n2⟩
theorem dif_ok {p c : Nat} (hp : Bt p) (hc : Nn c) (h2 : rg c ≤ 1144 * B52) : double.sub p c = some (fsub p c) ∧ Nn (fsub p c) ∧ rg (fsub p c) ≤ 1145 * B52 := by
  have hB : 1144 * B52 < 9218868437227405312 := by decide
  have hh := hp.hi
  have hp2 : rg p ≤ 1144 * B52 := Nat.le_trans hp.hi (by decide)
  obtain ⟨r, hr, e⟩ := sub64 hp.w hc.w (by omega) (by omega)
  have b : r ≤ 1145 * B52 := by
    refine rn_below (by decide) hr (by omega) ?_
    have m1 := mgE (by omega) hp2
    have m2 := mgE (by omega) h2
    have a1 := natAbs_val p
    have a2 := natAbs_val c
    have e1 : p2 52 * p2 (1145 - 1) = 2 * (p2 52 * p2 (1144 - 1)) := by
      rw [show (1145 - 1 : Nat) = 1143 + 1 from rfl, p2_suc 1143, ← Nat.mul_assoc, Nat.mul_comm]
    rw [e1, Nat.mul_one]
    omega
  obtain ⟨n1, n2⟩ := wd_fin (s := _) b (by decide)
  rw [fsub_of e]
  exact ⟨e, n1, n2⟩
end GFl

/- Plain floats: a chord without a push. -/
namespace GFl
open Ieee
theorem z_quo {s y : Nat} (hs : Ps s) (h0 : rg s = 0) (hy : Bt y) : rg (fdiv s y) = 0 ∧ W64 (fdiv s y) := by
  have hl := hy.lo
  have hi := hy.hi
  obtain ⟨r, hr, e⟩ := div64 hs.w hy.w (by omega) (by omega) (by omega)
  have hm : mg B52 (rg y) ≠ 0 := by
    have := le_mg B52 (rg y) B52_pos
    omega
  rw [h0] at hr
  have e0 : mg B52 0 * p2 1074 = 0 := by rw [mg_zero _ B52_pos, Nat.zero_mul]
  have hr0 : r = 0 := by
    have hr' : IsRn B52 (mg B52 0 * p2 1074) (mg B52 (rg y)) r := hr
    rw [e0] at hr'
    exact hr'.unique B52_pos (by omega) (IsRn.zero B52_pos (by omega))
  rw [fdiv_of e, hr0]
  refine ⟨?_, (wd_nn _ (by decide)).w⟩
  rw [Nat.zero_min, wd_rg (by decide)]
theorem val_rg0 {x : Nat} (h : rg x = 0) : val x = 0 := by
  have := natAbs_val x
  rw [h, mg_zero _ B52_pos] at this
  omega
theorem z_add {a b : Nat} (ha : W64 a) (hb : W64 b) (h1 : rg a = 0) (h2 : rg b = 0) : rg (fadd a b) = 0 ∧ W64 (fadd a b) := by
  obtain ⟨r, hr, e⟩ := add64 ha hb (by omega) (by omega)
  rw [val_rg0 h1, val_rg0 h2] at hr
  have hr0 : r = 0 := hr.unique B52_pos (by decide) (IsRn.zero B52_pos (by decide))
  rw [fadd_of e, hr0]
  refine ⟨?_, (wd_nn _ (by decide)).w⟩
  rw [Nat.zero_min, wd_rg (by decide)]
theorem z_sub {p c : Nat} (hp : Bt p) (hc : W64 c) (h : rg c = 0) : fsub p c = p := by
  have hl := hp.lo
  have hi := hp.hi
  obtain ⟨r, hr, e⟩ := sub64 hp.w hc (by omega) (by omega)
  rw [val_rg0 h, Int.sub_zero] at hr e
  have hp0 : val p = (mg B52 (rg p) : Int) := by
    rw [val_eq', hp.n]; rfl
  have hpos : 0 < mg B52 (rg p) := by
    have := le_mg B52 (rg p) B52_pos
    omega
  have hr0 : r = rg p := by
    have hr' : IsRn B52 (val p).natAbs 1 r := hr
    rw [natAbs_val] at hr'
    have := IsRn.exact (B := B52) (r := rg p) (D := 1) B52_pos (by decide)
    rw [Nat.mul_one] at this
    exact hr'.unique B52_pos (by decide) this
  rw [fsub_of e, hr0, hp0]
  rw [if_neg (by omega), decide_eq_false (by omega), Nat.min_eq_left (by omega), ← hp.n]
  exact (w64_wd hp.w).symm
end GFl

/- girderref02.Float: a finite float as a Num. -/
namespace Go.Proofs.YtaedkekjekbjmaaDoor
open Go Go.RowKit Nv GFl
open Go.Proofs.YtaedkekjekbjmaaDoorW.PrintWords (Kd)
set_option maxRecDepth 100000
set_option linter.unusedSimpArgs false

theorem p2_cast (n : Nat) : ((p2 n : Nat) : Int) = (2 : Int) ^ n := by rw [p2_def]; push_cast; rfl
theorem split_le {x fr : Nat} {ex : Int} (h : IsSplit x fr ex) (hf : rg x < 9218868437227405312) : ex ≤ 1023 := by
  have h1 : mg B52 (rg x) < mg B52 9218868437227405312 := (mg_lt_iff B52_pos).2 hf
  rw [mgINF] at h1
  have h2 : B52 * p2 2046 = p2 2098 := by
    have : B52 = p2 52 := by decide +kernel
    rw [this, ← p2_add]
  have h3 : 0 < fr := by have := h.odd; omega
  have h4 : p2 (ex + 1074).toNat ≤ fr * p2 (ex + 1074).toNat := Nat.le_mul_of_pos_left _ h3
  rw [h.eq] at h4
  have h5 := p2_lt (show p2 (ex + 1074).toNat < p2 2098 by omega)
  omega
theorem split_lt {x fr : Nat} {ex : Int} (h : IsSplit x fr ex) : fr < 9007199254740992 := by
  have e := h.eq
  by_cases hr : rg x < B52
  · rw [mg_small hr] at e
    have h4 : fr ≤ fr * p2 (ex + 1074).toNat := Nat.le_mul_of_pos_right _ (p2_pos _)
    have : B52 = 4503599627370496 := rfl
    omega
  · rw [mg_norm (by omega)] at e
    have l := p2_odd_le h.odd e
    rw [p2_split l, ← Nat.mul_assoc] at e
    have e2 := Nat.eq_of_mul_eq_mul_right (p2_pos _) e
    have h4 : fr ≤ fr * p2 ((ex + 1074).toNat - (rg x / B52 - 1)) := Nat.le_mul_of_pos_right _ (p2_pos _)
    have h5 := Nat.mod_lt (rg x) B52_pos
    have : B52 = 4503599627370496 := rfl
    omega
theorem split_val {x fr : Nat} {ex : Int} (h : IsSplit x fr ex) : nz (neg x) (fr : Int) * 2 ^ (ex + (1074 : Nat)).toNat = val x := by
  have h1 := h.eq
  have hl := h.lo
  have h2 : ((fr : Int)) * 2 ^ (ex + (1074 : Nat)).toNat = ((mg B52 (rg x) : Nat) : Int) := by
    rw [← h1, ← p2_cast]; push_cast; rfl
  rw [val_eq']
  unfold nz
  cases neg x
  · simpa using h2
  · simp only [if_true, Int.neg_mul, h2]
set_option maxHeartbeats 4000000 in
theorem float1 {W : World} (x : Nat) (Q : Nat → Int → Prop) (hS : ∀ w, Calls Tryd.prog 46 #[.float .f64 x] w fun e w' => ∃ (fr : Nat) (ex : Int), e = .returned (.tuple #[.agg #[.bool (neg x), .int .u64 (fr : Int), .int .i64 ex], .bool true]) ∧ (fr < 18446744073709551616 ∧ Q fr ex) ∧ Below w.heap.size w w') :
    Calls Tryd.prog 27 #[.float .f64 x] W fun e w' => ∃ (fr : Nat) (ex : Int), Q fr ex ∧ NumPost (neg x) (fr : Int) ex W e w' := by
  have SP := Lib.hid hS
  obtain ⟨g, hg⟩ : ∃ g, neg x = g := ⟨_, rfl⟩
  rw [hg] at SP ⊢
  clear hS hg
  have R0 : Hid (Below W.heap.size W (W.alloc nilN) ∧ (W.alloc nilN).heap[W.heap.size]? = some nilN) := Lib.hid ⟨bl_alloc (Below.refl _ _) _, kb_new (Below.refl _ _)⟩
  go_enter Tryd.func27, Tryd.ntmps27
  go_upto_region 2 with (first
    | (go_at_call 46; (with_reducible refine (SP.out _).mono ?_); rintro e w1 ⟨fr, ex, rfl, ⟨hfr, hQ⟩, hb⟩; have HQ := Lib.hid hQ; have NO : Hid (∀ w, Calls Tryd.prog 47 #[.int .u64 (fr : Int)] w (LPost (fr : Int) w)) := Lib.hid (fun w => natOf_d fr hfr w); obtain ⟨q, hq⟩ : ∃ q : Int, (fr : Int) = q := ⟨_, rfl⟩; have FQ := Lib.hid hq; rw [hq] at NO; simp only [hq]; clear hq hfr hQ; have R1 : Hid (Below W.heap.size W w1 ∧ w1.heap[W.heap.size]? = some nilN) := Lib.hid ⟨bl_then R0.out.1 hb, kb_keep hb R0.out.2⟩; clear hb))
  have R2 : Hid (Below W.heap.size W (w1.alloc (.cells #[.bool g, .int .u64 q, .int .i64 ex] 70)) ∧ (w1.alloc (.cells #[.bool g, .int .u64 q, .int .i64 ex] 70)).heap[W.heap.size]? = some nilN ∧ (w1.alloc (.cells #[.bool g, .int .u64 q, .int .i64 ex] 70)).heap[w1.heap.size]? = some (.cells #[.bool g, .int .u64 q, .int .i64 ex] 70 (0, 0))) :=
    Lib.hid ⟨bl_alloc R1.out.1 _, kb_alloc R1.out.2, kb_new (Below.refl _ _)⟩
  obtain ⟨w2, hw2⟩ : ∃ w, w1.alloc (.cells #[.bool g, .int .u64 q, .int .i64 ex] 70) = w := ⟨_, rfl⟩
  obtain ⟨bp, hbp⟩ : ∃ b, w1.heap.size = b := ⟨_, rfl⟩
  rw [hw2, hbp] at R2
  try simp only [hw2, hbp]
  clear hw2 hbp R1
  refine wp_region_G (g := 8) (S := fun w' => w'.cell? ⟨bp, 0, none⟩ = some (.bool g) ∧ w'.cell? ⟨bp, 1, none⟩ = some (.int .u64 q) ∧ w'.cell? ⟨bp, 2, none⟩ = some (.int .i64 ex)) (by kernel_rfl) ?_
  have R3 : Hid (Below W.heap.size W w2.drew ∧ w2.drew.heap[W.heap.size]? = some nilN ∧ w2.drew.heap[bp]? = some (.cells #[.bool g, .int .u64 q, .int .i64 ex] 70 (0, 0))) := Lib.hid ⟨bl_drew R2.out.1, R2.out.2.1, R2.out.2.2⟩
  obtain ⟨wd, hwd⟩ : ∃ w, w2.drew = w := ⟨_, rfl⟩
  rw [hwd] at R3
  rw [hwd]
  clear hwd
  have hS : wd.cell? ⟨bp, 0, none⟩ = some (.bool g) ∧ wd.cell? ⟨bp, 1, none⟩ = some (.int .u64 q) ∧ wd.cell? ⟨bp, 2, none⟩ = some (.int .i64 ex) := ⟨kb_cell R3.out.2.2 (i := 0) rfl, kb_cell R3.out.2.2 (i := 1) rfl, kb_cell R3.out.2.2 (i := 2) rfl⟩
  (refine wpG_take (i := 0) (v := ?_) rfl rfl (by kernel_rfl) (by kernel_rfl) (by kernel_rfl) (fun _ _ _ h => h) (Or.inl ⟨by rfl, fun w => ?_⟩) (Or.inr hS) ?_; rotate_left; focus (go_simp; first | done | with_reducible rfl | exact rfl)); (try simp only [Act.put, List.setIfInBounds_toArray, List.set_cons_zero, List.set_cons_succ, List.getElem_toArray, List.getElem_cons_zero, List.getElem_cons_succ])
  (refine wpG_ldC (i := 1) [7, 8] (v := ?_) rfl rfl (by kernel_rfl) (by kernel_rfl) (by kernel_rfl) (by kernel_rfl) (fun _ _ _ h => h) (Or.inl ⟨by rfl, ?_⟩) hS ?_; rotate_left; focus (intro w hSw; (try dsimp only at hSw); go_simp; first | done | with_reducible rfl | exact rfl)); (try simp only [Act.put, List.setIfInBounds_toArray, List.set_cons_zero, List.set_cons_succ, List.getElem_toArray, List.getElem_cons_zero, List.getElem_cons_succ])
  (refine wpG_take (i := 2) (v := ?_) rfl rfl (by kernel_rfl) (by kernel_rfl) (by kernel_rfl) (fun _ _ _ h => h) (Or.inl ⟨by rfl, fun w => ?_⟩) (Or.inr hS) ?_; rotate_left; focus (go_simp; first | done | with_reducible rfl | exact rfl)); (try simp only [Act.put, List.setIfInBounds_toArray, List.set_cons_zero, List.set_cons_succ, List.getElem_toArray, List.getElem_cons_zero, List.getElem_cons_succ])
  (refine wpG_ldC (i := 3) [4, 7, 8] (v := ?_) rfl rfl (by kernel_rfl) (by kernel_rfl) (by kernel_rfl) (by kernel_rfl) (fun _ _ _ h => h) (Or.inl ⟨by rfl, ?_⟩) hS ?_; rotate_left; focus (intro w hSw; (try dsimp only at hSw); go_simp; first | done | with_reducible rfl | exact rfl)); (try simp only [Act.put, List.setIfInBounds_toArray, List.set_cons_zero, List.set_cons_succ, List.getElem_toArray, List.getElem_cons_zero, List.getElem_cons_succ])
  (refine wpG_take (i := 5) (v := ?_) rfl rfl (by kernel_rfl) (by kernel_rfl) (by kernel_rfl) (fun _ _ _ h => h) (Or.inl ⟨by rfl, fun w => ?_⟩) (Or.inr hS) ?_; rotate_left; focus (go_simp; first | done | with_reducible rfl | exact rfl)); (try simp only [Act.put, List.setIfInBounds_toArray, List.set_cons_zero, List.set_cons_succ, List.getElem_toArray, List.getElem_cons_zero, List.getElem_cons_succ])
  (refine wpG_ldC (i := 6) [7, 8] (v := ?_) rfl rfl (by kernel_rfl) (by kernel_rfl) (by kernel_rfl) (by kernel_rfl) (fun _ _ _ h => h) (Or.inl ⟨by rfl, ?_⟩) hS ?_; rotate_left; focus (intro w hSw; (try dsimp only at hSw); go_simp; first | done | with_reducible rfl | exact rfl)); (try simp only [Act.put, List.setIfInBounds_toArray, List.set_cons_zero, List.set_cons_succ, List.getElem_toArray, List.getElem_cons_zero, List.getElem_cons_succ])
  refine wpG_one (i := 4) (by kernel_rfl) rfl (fun K hK => ?_); have HK := Lib.hid hK; clear hK
  go_simp
  (with_reducible refine (NO.out _).mono ?_)
  rintro e w4 ⟨vr, rfl, hv, hb⟩
  obtain ⟨AR, mR, cR, rfl⟩ := hv.ld.slice
  have VR := Lib.hid hv
  have SZ := Lib.hid (kb_lt R3.out.2.1)
  have BB := Lib.hid (bl_then R3.out.1 hb)
  have k0 := kb_keep hb R3.out.2.1
  have k2 := kb_keep hb R3.out.2.2
  have hS : w4.cell? ⟨bp, 0, none⟩ = some (.bool g) ∧ w4.cell? ⟨bp, 1, none⟩ = some (.int .u64 q) ∧ w4.cell? ⟨bp, 2, none⟩ = some (.int .i64 ex) := ⟨kb_cell k2 (i := 0) rfl, kb_cell k2 (i := 1) rfl, kb_cell k2 (i := 2) rfl⟩
  refine HK.out _ _ (Or.inr hS) ?_
  clear HK K hv hb
  (try simp only [Act.put, List.setIfInBounds_toArray, List.set_cons_zero, List.set_cons_succ, List.getElem_toArray, List.getElem_cons_zero, List.getElem_cons_succ])
  have dc0 := kb_cell k0 (i := 0) rfl
  have dc1 := kb_cell k0 (i := 1) rfl
  have dc2 := kb_cell k0 (i := 2) rfl
  have fr0 := kb_frozen k0 0
  have fr1 := kb_frozen k0 1
  have fr2 := kb_frozen k0 2
  (refine wpG_take (i := 7) (v := ?_) rfl rfl (by kernel_rfl) (by kernel_rfl) (by kernel_rfl) (fun _ _ _ h => h) (Or.inl ⟨by rfl, fun w => ?_⟩) (Or.inr hS) ?_; rotate_left; focus (go_simp; first | done | with_reducible rfl | exact rfl)); (try simp only [Act.put, List.setIfInBounds_toArray, List.set_cons_zero, List.set_cons_succ, List.getElem_toArray, List.getElem_cons_zero, List.getElem_cons_succ])
  refine wpG_one (i := 8) (by kernel_rfl) rfl (fun K hK => ?_); have HK := Lib.hid hK; clear hK; go_simp; refine HK.out _ _ (Or.inl (by kernel_rfl)) ?_; clear HK K; (try simp only [Act.put, List.setIfInBounds_toArray, List.set_cons_zero, List.set_cons_succ, List.getElem_toArray, List.getElem_cons_zero, List.getElem_cons_succ])
  refine wpG_done (by kernel_rfl) ?_ _
  go_wp2
  have y2 := hp_set (hp_set (hp_set k0 0 (.bool g)) 1 (.slice AR mR cR)) 2 (.int .i64 ex)
  have z0 := kb_cell y2 (i := 0) rfl
  have z1 := kb_cell y2 (i := 1) rfl
  have z2 := kb_cell y2 (i := 2) rfl
  refine bodyPost_ret (v := .agg #[.bool g, .slice AR mR cR, .int .i64 ex]) (by simp [results, Tryd.results27, go_sem, z0, z1, z2]) rfl ?_
  refine ⟨fr, ex, HQ.out, ?_⟩
  rw [FQ.out]
  refine ⟨_, rfl, ⟨_, rfl, (VR.out.move (fun k hk => ?_)).ld⟩, bl_set (bl_set (bl_set BB.out _ (by simp)) _ (by simp)) _ (by simp)⟩
  have h1 := VR.out.ge k hk
  have h2 := SZ.out
  rw [hp_other (by omega), hp_other (by omega), hp_other (by omega)]
theorem float_s {W : World} (x : Nat) (hx : W64 x) (hf : rg x < 9218868437227405312) : Calls Tryd.prog 27 #[.float .f64 x] W (ZPost 1074 1023 (val x) W) := by
  by_cases h0 : rg x = 0
  · refine (float1 x (fun fr ex => fr = 0 ∧ ex = 0) (fun w => (splitR_z x hx h0 w).mono fun e w' h => ⟨0, 0, h.1, ⟨by decide, rfl, rfl⟩, h.2⟩)).mono ?_
    rintro e w' ⟨fr, ex, ⟨rfl, rfl⟩, r, rfl, hr, hb⟩
    exact ⟨r, rfl, ⟨_, _, _, hr, by omega, by omega, by omega, by rw [val_rg0 h0, show nz (neg x) ((0 : Nat) : Int) = 0 by cases neg x <;> rfl, Int.zero_mul]⟩, hb⟩
  · refine (float1 x (fun fr ex => IsSplit x fr ex) (fun w => (splitR_yes x hx (by omega) hf w).mono fun e w' h => ?_)).mono ?_
    · obtain ⟨fr, ex, h1, h2, h3⟩ := h
      have h4 : fr < 18446744073709551616 := by have := split_lt h2; omega
      exact ⟨fr, ex, h1, ⟨h4, h2⟩, h3⟩
    · rintro e w' ⟨fr, ex, hsp, r, rfl, hr, hb⟩
      have h1 := hsp.lo
      exact ⟨r, rfl, ⟨_, _, _, hr, by omega, by omega, split_le hsp hf, split_val hsp⟩, hb⟩
end Go.Proofs.YtaedkekjekbjmaaDoor
