/- What girderref01's Split and bits' Ulp answer. -/
import Derived.Test.YtddleibffkaenaaDoorB5
import Derived.Deep.LoopGhost
namespace Go.Proofs.YtddleibffkaenaaDoor
open Go Go.RowKit GFl
set_option maxRecDepth 100000
attribute [local go_sem] run_f64bits run_f64frombits run_neg_f64

/-- How far the next float of greater size lies. -/
structure IsUlp (x z : Nat) : Prop where
  w : W64 z
  s : neg z = false
  f : rg z < 9218868437227405312
  m : mg B52 (rg z) = p2 (max (rg x / B52) 1 - 1)
theorem IsUlp.unique {x y z : Nat} (h : IsUlp x y) (h' : IsUlp x z) : y = z :=
  w64_ext h.w h'.w (h.s.trans h'.s.symm) (mg_inj B52_pos (h.m.trans h'.m.symm))
theorem ulp_ld {x z : Nat} (hE : rg x / B52 ≤ 2046) (h : IsLd 4607182418800017408 ((max (rg x / B52) 1 : Nat) - 1075) z) : IsUlp x z := by
  obtain ⟨r, hr, e⟩ := h
  rw [one_mg] at hr
  generalize hM : max (rg x / B52) 1 = M at *
  have hM1 : 1 ≤ M := by omega
  have hM2 : M ≤ 2046 := by omega
  obtain ⟨q, hq⟩ := rep (B := B52) 1 (M - 1) (by decide)
  rw [Nat.one_mul] at hq
  have hrq : r = q := by
    refine rn_exact B52_pos (p2_pos _) hr ?_
    rw [hq, ← p2_add, ← p2_add]
    congr 1; omega
  have hhi : q < 9218868437227405312 := by
    rw [← mg_lt_iff (B := B52) B52_pos, hq, mgINF]
    have h1 : p2 (M - 1) ≤ p2 2046 := p2_le (by omega)
    have h2 := p2_pos 2046
    unfold B52
    omega
  have hq63 : q < 9223372036854775808 := by omega
  rw [hrq, one_neg, Nat.min_eq_left (Nat.le_of_lt hhi)] at e
  rw [e]
  exact ⟨wd_w hq63, wd_neg hq63, by rw [wd_rg hq63]; exact hhi, by rw [wd_rg hq63]; rw [hM]; exact hq⟩
def UlpPost (x : Nat) (w : World) (e : Ending) (w' : World) : Prop := ∃ z, e = .returned (.tuple #[.float .f64 z, .bool true]) ∧ IsUlp x z ∧ Below w.heap.size w w'
theorem ulp_no (x : Nat) (hx : W64 x) (h : 9218868437227405312 ≤ rg x) (w : World) : Calls Tryd.prog 14 #[.float .f64 x] w fun e w' => e = .returned (.tuple #[.float .f64 0, .bool false]) ∧ w' = w := by
  have hk : 2 < kindF x := by unfold kindF; (repeat' split) <;> omega
  go_enter Tryd.func14, Tryd.ntmps14
  go_wp2_with (go_at_call 17; refine (kind_c _ hx _).mono ?_; rintro e w' ⟨rfl, rfl⟩)
  go_ret2
  exact ⟨rfl, rfl⟩
theorem ulp_yes (x : Nat) (hx : W64 x) (h : rg x < 9218868437227405312) (w : World) : Calls Tryd.prog 14 #[.float .f64 x] w (UlpPost x w) := by
  have hk : ¬ 2 < kindF x := by unfold kindF; (repeat' split) <;> omega
  have hE : rg x / B52 ≤ 2046 := Nat.le_of_lt_succ (Nat.div_lt_of_lt_mul (by unfold B52; omega))
  have he := exp_u64 hx
  obtain ⟨E, hEE⟩ : ∃ E, rg x / B52 = E := ⟨_, rfl⟩
  rw [hEE] at he hE
  have HE := Lib.hid hEE
  clear hEE
  by_cases h1 : 1 ≤ E
  all_goals
    go_enter Tryd.func14, Tryd.ntmps14
    go_wp2_with (first | (go_at_call 17; refine (kind_c _ hx _).mono ?_; rintro e w' ⟨rfl, rfl⟩) | (go_at_call 40; refine (ldexp_cc _ _ (w_const (by decide)) (by decide) (by decide) (by omega) (by omega) _).mono ?_; rintro e w' ⟨z, rfl, hl, ⟨⟨nq, rfl⟩⟩⟩))
    go_ret2
    refine ⟨z, rfl, ulp_ld (x := x) (by rw [HE.out]; exact hE) ?_, (Dr.n _ _).below⟩
    rw [HE.out]
    have e : ((max E 1 : Nat) : Int) = max (E : Int) 1 := by omega
    rw [e]
    first | exact hl | (rw [Int.max_eq_left (by omega)]; exact hl) | (rw [Int.max_eq_right (by omega)]; exact hl)
theorem splitR_no (x : Nat) (hx : W64 x) (h : 9218868437227405312 ≤ rg x) (w : World) : Calls Tryd.prog 11 #[.float .f64 x] w fun e w' => e = .returned (.tuple #[.agg #[.bool false, .int .u64 0, .int .i64 0], .bool false]) ∧ Below w.heap.size w w' := by
  have hk : finF x = false := by unfold finF; simp; omega
  go_enter Tryd.func11, Tryd.ntmps11
  go_wp2_with (go_at_call 42; refine (finR_c _ hx _).mono ?_; rintro e w' ⟨rfl, rfl⟩)
  exact bodyPost_ret (v := .tuple #[.agg #[.bool false, .int .u64 0, .int .i64 0], .bool false]) (by simp [results, Tryd.results11, go_sem]) rfl ⟨rfl, (Below.refl _ _).alloc (Nat.le_refl _) _⟩
theorem splitR_z (x : Nat) (hx : W64 x) (h0 : rg x = 0) (w : World) : Calls Tryd.prog 11 #[.float .f64 x] w fun e w' => e = .returned (.tuple #[.agg #[.bool (neg x), .int .u64 0, .int .i64 0], .bool true]) ∧ Below w.heap.size w w' := by
  have hk : finF x = true := by unfold finF; simp; omega
  go_enter Tryd.func11, Tryd.ntmps11
  go_wp2_with (first | (go_at_call 42; refine (finR_c _ hx _).mono ?_; rintro e w' ⟨rfl, rfl⟩) | (go_at_call 43; refine (fields_c _ hx _).mono ?_; rw [h0]; rintro e w' ⟨rfl, rfl⟩))
  refine wp_loop_rounds 1 ?_
  rw [rounds_succ]
  go_wp2
  refine bodyPost_ret (v := .tuple #[.agg #[.bool (neg x), .int .u64 0, .int .i64 0], .bool true]) (by simp [results, Tryd.results11, go_sem]) rfl ⟨rfl, ?_⟩
  repeat' (first | (with_reducible exact Below.refl _ _) | (with_reducible refine bl_alloc ?_ _) | (with_reducible refine bl_drewN ?_ _) | (with_reducible refine bl_drew ?_) | (with_reducible refine bl_set ?_ _ (by simp)))
def SplitRPost (x : Nat) (w : World) (e : Ending) (w' : World) : Prop := ∃ fr ex, e = .returned (.tuple #[.agg #[.bool (neg x), .int .u64 (fr : Nat), .int .i64 ex], .bool true]) ∧ IsSplit x fr ex ∧ Below w.heap.size w w'
/-- On the way: what is left is even or odd. -/
structure Halv (x f : Nat) (e : Int) : Prop where
  pos : 0 < f
  lo : -1074 ≤ e
  hi : e ≤ 1000000
  eq : f * p2 (e + 1074).toNat = mg B52 (rg x)
theorem halv_next {x f : Nat} {e : Int} (h : Halv x f e) (he : f % 2 = 0) (hx : rg x < 9218868437227405312) : Halv x (f / 2) (e + 1) := by
  have hp := h.pos
  have hl := h.lo
  have key : f / 2 * p2 (e + 1 + 1074).toNat = mg B52 (rg x) := by
    rw [← h.eq]
    have e1 : (e + 1 + 1074).toNat = 1 + (e + 1074).toNat := by omega
    have e2 : p2 1 = 2 := by decide +kernel
    rw [e1, p2_add, e2, ← Nat.mul_assoc]
    congr 1; omega
  refine ⟨by omega, by omega, ?_, key⟩
  have hlt : p2 (e + 1 + 1074).toNat < p2 2099 := by
    have h1 : mg B52 (rg x) < mg B52 9218868437227405312 := (mg_lt_iff B52_pos).2 hx
    rw [mgINF] at h1
    have h2 : B52 = p2 52 := by decide +kernel
    have h3 : p2 52 * p2 2046 = p2 2098 := by rw [← p2_add]
    have h4 : p2 (e + 1 + 1074).toNat ≤ f / 2 * p2 (e + 1 + 1074).toNat := Nat.le_mul_of_pos_left _ (by omega)
    have h5 : p2 2098 ≤ p2 2099 := p2_le (by decide)
    rw [key] at h4
    have h6 : B52 * p2 2046 = p2 2098 := by rw [h2, h3]
    omega
  rcases Nat.lt_or_ge (e + 1 + 1074).toNat 2099 with h7 | h7
  · omega
  · have := p2_le h7; omega
theorem splitR_yes (x : Nat) (hx : W64 x) (h0 : 0 < rg x) (h1 : rg x < 9218868437227405312) (w : World) : Calls Tryd.prog 11 #[.float .f64 x] w (SplitRPost x w) := by
  have hk : finF x = true := by unfold finF; simp; omega
  have ht : rg x % B52 < B52 := Nat.mod_lt _ B52_pos
  have hE : rg x / B52 ≤ 2046 := Nat.le_of_lt_succ (Nat.div_lt_of_lt_mul (by unfold B52; omega))
  have hst : ∃ E t : Nat, Hid (rg x / B52 = E) ∧ Hid (rg x % B52 = t) ∧ E ≤ 2046 ∧ t < 4503599627370496 ∧ (1 ≤ E → Halv x (t + 4503599627370496) ((E : Int) - 1075)) ∧ (¬ 1 ≤ E → Halv x t (-1074)) := by
    refine ⟨_, _, Lib.hid rfl, Lib.hid rfl, hE, ht, ?_, ?_⟩
    · intro hE1
      have hlo : B52 ≤ rg x := (Nat.one_le_div_iff B52_pos).1 hE1
      refine ⟨by omega, by omega, by omega, ?_⟩
      rw [mg_norm hlo, Nat.add_comm]
      congr 2; omega
    · intro hE1
      have hs : rg x < B52 := by rw [Nat.one_le_div_iff B52_pos] at hE1; omega
      have hm : rg x % B52 = rg x := Nat.mod_eq_of_lt hs
      rw [hm]
      refine ⟨h0, by omega, by omega, ?_⟩
      rw [mg_small hs, show ((-1074 : Int) + 1074).toNat = 0 from rfl, p2_zero, Nat.mul_one]
  obtain ⟨E, t, HE, HT, hE2, ht2, hA, hB⟩ := hst
  clear ht hE
  have fin : ∀ f e, Halv x f e → f % 2 = 1 → IsSplit x f e := fun f e h ho => ⟨ho, h.lo, h.eq⟩
  have nx : ∀ f e, Halv x f e → f % 2 = 0 → Halv x (f / 2) (e + 1) := fun f e h he => halv_next h he h1
  have FI := Lib.hid fin
  have NX := Lib.hid nx
  clear fin nx
  by_cases hE1 : 1 ≤ E
  all_goals
    first | have hH := Lib.hid (hA hE1) | have hH := Lib.hid (hB hE1)
    clear hA hB
    have hne : ((t : Int) + 4503599627370496 == 0) = false := by simp; omega
    have hne2 : ¬ 1 ≤ E → ((t : Int) == 0) = false := fun h => by have := (hH.out).pos; simp; omega
    first | have hne3 := hne2 hE1 | skip
    clear hne2
    go_enter Tryd.func11, Tryd.ntmps11
    go_wp2_with (first | (go_at_call 42; refine (finR_c _ hx _).mono ?_; rintro e w' ⟨rfl, rfl⟩) | (go_at_call 43; refine (fields_c _ hx _).mono ?_; rw [HE.out, HT.out]; rintro e w' ⟨rfl, rfl⟩))
    go_loopg [] 9007199254740992 (fun k wr => ∃ (f : Nat) (e : Int), f ≤ k ∧ f < 9007199254740992 ∧ wr = (w.alloc (Obj.cells #[Value.bool false, Value.int IntKind.u64 0, Value.int IntKind.i64 0] 25)).alloc (Obj.cells #[Value.bool (neg x), Value.int IntKind.u64 f, Value.int IntKind.i64 e] 25) ∧ Halv x f e)
    case atStart =>
      first
        | exact ⟨t + 4503599627370496, _, by omega, by omega, by simp, hH.out⟩
        | exact ⟨t, _, by omega, by omega, by simp, hH.out⟩
    case round =>
      obtain ⟨f, e, hf, hf2, rfl, h⟩ := hrel
      have hp := h.pos
      have hlo := h.lo
      have hhi := h.hi
      have hn0 : ((f : Int) != 0) = true := by rw [bne_iff_ne]; omega
      have H := Lib.hid h
      clear h
      by_cases hev : f % 2 = 0
      · have hm : ((f : Int) % 2 == 0) = true := by simp; omega
        have HV := Lib.hid hev
        clear hev
        go_wp2
        go_roundg (f / 2)
        case measure => omega
        case rel => exact ⟨f / 2, e + 1, Nat.le_refl _, by omega, by simp, NX.out f e H.out HV.out⟩
      · have hm : ((f : Int) % 2 == 0) = false := by simp; omega
        have HV := Lib.hid (show f % 2 = 1 by omega)
        clear hev
        go_wp2
        refine bodyPost_ret (v := .tuple #[.agg #[.bool (neg x), .int .u64 f, .int .i64 e], .bool true]) (by simp [results, Tryd.results11, go_sem]) rfl ⟨f, e, rfl, FI.out f e H.out HV.out, ?_⟩
        repeat' (first | (with_reducible exact Below.refl _ _) | (with_reducible refine bl_alloc ?_ _) | (with_reducible refine bl_drewN ?_ _) | (with_reducible refine bl_drew ?_) | (with_reducible refine bl_set ?_ _ (by simp)))
end Go.Proofs.YtddleibffkaenaaDoor
