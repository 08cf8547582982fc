import Derived.Test.YtfjiojdnbdfenaaDoorMd
import Derived.Test.YtfjiojdnbdfenaaDoorMb
import Derived.Test.YtfjiojdnbdfenaaDoorMe
import Derived.Test.YtfjiojdnbdfenaaDoorMf
import Derived.Deep.QuietTactic
import Derived.BigQuiet
import Derived.OwnWalk
import Derived.Deep.CutRange
import Derived.Test.YtfjiojdnbdfenaaDoorMc
import Derived.ProofKit
import Derived.Lib.LaidTab
import Derived.SevenTiedAt
import Derived.JoinedOf
import Derived.ChangeSame
import Derived.ChangeVars
import Derived.Deep.Slices
import Derived.Deep.Fields
import Derived.Carry
import Derived.SizedLaws
import Derived.Test.YtfjiojdnbdfenaaDoorCards
import Derived.Test.YtfjiojdnbdfenaaDoorTie
/- Plain laws: whole numbers as floats, their roots, what the root leaves. No program. -/
namespace GFl
open Ieee Go

theorem word_w (s : Bool) (r : Nat) : W64 (double.word s (min r double.infRung)) := word_lt s r good_double
theorem write_num (s : Bool) (m : Nat) (e : Int) : W64 (double.write (.number s m e)) ∧ neg (double.write (.number s m e)) = s ∧ rg (double.write (.number s m e)) ≤ 9218868437227405312 := by
  obtain ⟨r, _, h⟩ := nearest_rn good_double s m e
  have h' : double.write (.number s m e) = wd s (min r 9218868437227405312) := by rw [← d_inf]; exact h
  have hl : min r 9218868437227405312 < 9223372036854775808 := by omega
  rw [h']
  exact ⟨wd_w hl, wd_neg hl, by rw [wd_rg hl]; omega⟩
theorem write_inf (s : Bool) : double.write (.infinity s) = wd s 9218868437227405312 := by rw [← d_inf]; rfl
/-- A positive float's root. -/
theorem sqrt_pos {x : Nat} (hx : W64 x) (hn : neg x = false) (hf : rg x < 9218868437227405312) : ∃ r, double.sqrt x = some r ∧ W64 r ∧ neg r = false ∧ rg r ≤ 9218868437227405312 := by
  obtain ⟨m, e, hr, _, _, _, _⟩ := read_num (f := double) hx (by rw [d_inf]; exact hf)
  have hs : sgn double x = false := hn
  rw [hs] at hr
  unfold Format.sqrt
  rw [hr]
  by_cases h0 : m = 0
  · refine ⟨_, by simp only [Datum.root, if_pos h0]; rfl, write_num false m e⟩
  · refine ⟨_, by simp only [Datum.root, if_neg h0]; rfl, write_num false _ _⟩
theorem read_fin {x : Nat} (hx : W64 x) (hf : rg x < 9218868437227405312) : ∃ m e, double.read x = .number (neg x) m e := by
  obtain ⟨m, e, hr, _⟩ := read_num (f := double) hx (by rw [d_inf]; exact hf)
  exact ⟨m, e, hr⟩
/-- What is left of x beside r's square. -/
theorem fma_left {r x : Nat} (hr : W64 r) (hn : neg r = false) (hri : rg r ≤ 9218868437227405312) (hx : W64 x) (hf : rg x < 9218868437227405312) : ∃ t, double.fma (fneg r) r x = some t ∧ W64 t ∧ (rg r = 9218868437227405312 → t = wd true 9218868437227405312) := by
  obtain ⟨m, e, ex⟩ := read_fin hx hf
  unfold Format.fma
  rw [ex]
  by_cases h : rg r < 9218868437227405312
  · obtain ⟨m1, e1, er⟩ := read_fin hr h
    obtain ⟨m2, e2, en⟩ := read_fin (fneg_w hr) (by rw [fneg_rg hr]; exact h)
    rw [er, en]
    refine ⟨_, rfl, ?_, fun h' => absurd h (by omega)⟩
    exact (write_num _ _ _).1
  · have h' : rg r = 9218868437227405312 := by omega
    have er : double.read r = .infinity (neg r) := read_inf (f := double) hr (by rw [d_inf]; exact h') good_double
    have en : double.read (fneg r) = .infinity (neg (fneg r)) := read_inf (f := double) (fneg_w hr) (by rw [d_inf]; exact (fneg_rg hr).trans h') good_double
    rw [er, en, fneg_neg hr, hn]
    refine ⟨_, rfl, ?_, fun _ => write_inf true⟩
    show W64 (double.write (.infinity true))
    rw [write_inf]; exact wd_w (by decide)
theorem sub_self64 {x : Nat} (hx : W64 x) (hf : rg x < 9218868437227405312) : double.sub x x = some 0 := by
  obtain ⟨m, e, ex⟩ := read_fin hx hf
  unfold Format.sub
  rw [ex]
  simp only [Datum.opposite, Datum.sum, Option.map_some]
  have h : signed (neg x) m (e - min e e).toNat + signed (!neg x) m (e - min e e).toNat = 0 := by
    unfold signed
    cases neg x <;> simp <;> omega
  rw [h, if_pos rfl]
  have hb : (neg x && !neg x) = false := by cases neg x <;> rfl
  rw [hb]
  show some (double.nearest false 0 (min e e)) = some 0
  unfold Format.nearest
  rw [if_pos rfl]; decide
/-- A whole number as a float. -/
theorem int_float {n : Nat} (h1 : 1 ≤ n) (h2 : n < 9007199254740992) : ∃ x, floatOfInt .f64 (n : Int) = x ∧ W64 x ∧ neg x = false ∧ 4607182418800017408 ≤ rg x ∧ rg x < 4845873199050653696 ∧ mg B52 (rg x) = n * p2 1074 := by
  obtain ⟨z, hz, hw, hn, hf, hm⟩ := ofNat64 h2
  refine ⟨z, ?_, hw, hn, ?_, ?_, hm⟩
  · unfold floatOfInt FloatKind.nearest FloatKind.encode FloatKind.format
    have h1 : ¬ (n : Int) < 0 := by omega
    simp only [h1, decide_false, Int.natAbs_natCast]
    exact hz
  · rw [← mg_le_iff (B := B52) B52_pos, hm]
    have := one_mg
    rw [one_rg] at this
    rw [this]
    exact Nat.le_mul_of_pos_left _ h1
  · rw [← mg_lt_iff (B := B52) B52_pos, hm]
    have e : mg B52 4845873199050653696 = B52 * p2 1075 := mg_B 1076 0 (by decide) (by decide)
    rw [e, show (1075 : Nat) = 1 + 1074 from rfl, p2_add, ← Nat.mul_assoc]
    exact Nat.mul_lt_mul_of_pos_right (by rw [show B52 * p2 1 = 9007199254740992 by decide +kernel]; exact h2) (p2_pos _)
theorem int_float0 : floatOfInt .f64 0 = 0 := by decide
end GFl


/- What Find answers stands between the counts (plain). -/
namespace Go.Proofs.YtfjiojdnbdfenaaDoor
open Go Nv GFl
set_option maxRecDepth 100000


theorem atW_p {p : Int} (h1 : -6867989431740006400 ≤ p) (h2 : p ≤ 6867989431740006400) : plc (atW p) = p ∧ isn (atW p) = false ∧ placeF (atW p) = p := by
  obtain ⟨e1, e2, e3⟩ := atW_r h1 h2
  have hn : neg (atW p) = decide (p < 0) := by unfold atW; exact wd_neg (by omega)
  have h3 : plc (atW p) = p := by rw [plc_eq, hn, e1]; simp only [decide_eq_true_eq]; split <;> omega
  have h4 : isn (atW p) = false := by rw [isn_eq]; simp; omega
  refine ⟨h3, h4, ?_⟩
  unfold placeF
  rw [h4, h3]; rfl
theorem val_mono {x y : Nat} (h : plc x ≤ plc y) : val x ≤ val y := by
  rw [plc_eq, plc_eq] at h
  rw [val_eq', val_eq']
  have m1 : rg x ≤ rg y → mg B52 (rg x) ≤ mg B52 (rg y) := fun h => mg_mono B52_pos h
  have m2 : rg y ≤ rg x → mg B52 (rg y) ≤ mg B52 (rg x) := fun h => mg_mono B52_pos h
  have z1 : rg x = 0 → mg B52 (rg x) = 0 := fun h => by rw [h]; exact mg_zero _ B52_pos
  have z2 : rg y = 0 → mg B52 (rg y) = 0 := fun h => by rw [h]; exact mg_zero _ B52_pos
  generalize mg B52 (rg x) = a at *
  generalize mg B52 (rg y) = b at *
  cases hx : neg x <;> cases hy : neg y <;> simp only [hx, hy, if_true, if_false, Bool.false_eq_true] at h ⊢ <;> omega
theorem hlv_inv (T : Int → Bool) : ∀ (n : Nat) (a b : Int), a < b → b - a ≤ 2 ^ n → T a = false → T b = true → a ≤ (hlv T n a b).1 ∧ (hlv T n a b).2 = (hlv T n a b).1 + 1 ∧ (hlv T n a b).2 ≤ b ∧ T (hlv T n a b).1 = false ∧ T (hlv T n a b).2 = true := by
  intro n
  induction n with
  | zero =>
    intro a b h1 h2 ha hb
    simp at h2
    obtain rfl : b = a + 1 := by omega
    exact ⟨Int.le_refl _, rfl, Int.le_refl _, ha, hb⟩
  | succ n ih =>
    intro a b h1 h2 ha hb
    rw [Int.pow_succ] at h2
    generalize hp : (2 : Int) ^ n = p at *
    unfold hlv
    by_cases hg : 1 < b - a
    · rw [if_pos hg]
      cases hm : T (a + (b - a) / 2)
      · rw [if_neg (by simp)]
        have := ih (a + (b - a) / 2) b (by omega) (by omega) hm hb
        exact ⟨by omega, this.2.1, this.2.2.1, this.2.2.2⟩
      · rw [if_pos rfl]
        have := ih a (a + (b - a) / 2) (by omega) (by omega) ha hm
        exact ⟨this.1, this.2.1, by omega, this.2.2.2⟩
    · rw [if_neg hg]
      obtain rfl : b = a + 1 := by omega
      exact ⟨Int.le_refl _, rfl, Int.le_refl _, ha, hb⟩
theorem two64 : (2 : Int) ^ 64 = 18446744073709551616 := by decide
theorem val_cf {x : Nat} (h : rg x ≤ 6858982232485265408) : -(p2 1574 : Int) ≤ val x ∧ val x ≤ (p2 1574 : Int) := by
  have h1 := mg_mono (B := B52) B52_pos h
  rw [mg500] at h1
  have := natAbs_val x
  generalize mg B52 (rg x) = m at *
  generalize p2 1574 = q at *
  omega
theorem p2_pos (n : Nat) : 0 < p2 n := by rw [p2_def]; exact Nat.two_pow_pos n
theorem p2_1576 : p2 1576 = 4 * p2 1574 := by rw [show 1576 = 1574 + 1 + 1 from rfl, p2_suc, p2_suc]; omega
theorem mg_top : mg B52 6867989431740006400 = p2 1576 := by
  have : (6867989431740006400 : Nat) = 1525 * B52 + 0 := by decide
  rw [this, mg_B 1525 0 (by decide) (by decide)]
  have e : B52 + 0 = p2 52 := by rw [p2_def]
  rw [e, ← p2_add]
theorem val_top : val (atW 6867989431740006400) = (4 * (p2 1574 : Int)) ∧ val (atW (-6867989431740006400)) = -(4 * (p2 1574 : Int)) := by
  have e1 : atW 6867989431740006400 = wd false 6867989431740006400 := by decide
  have e2 : atW (-6867989431740006400) = wd true 6867989431740006400 := by decide
  rw [e1, e2, val_wd (by decide), val_wd (by decide), mg_top, p2_1576]
  simp
theorem cnt_ends {d o : List Nat} (hr : rightB d o = true) : St.cnt (val (atW (-6867989431740006400))) (d.map val) (o.map val) = 0 ∧ St.cnt (val (atW 6867989431740006400)) (d.map val) (o.map val) = (d.length : Int) := by
  obtain ⟨r1, r2, r3, r4, r5⟩ := rightB_d hr
  have hM : (0 : Int) < (p2 1574 : Int) := by have := p2_pos 1574; omega
  have hd : ∀ a ∈ d.map val, -(p2 1574 : Int) ≤ a ∧ a ≤ (p2 1574 : Int) := fun a ha => by
    obtain ⟨x, hx, rfl⟩ := List.mem_map.1 ha
    exact val_cf (r4 x hx)
  have ho : ∀ a ∈ o.map val, -(p2 1574 : Int) ≤ a ∧ a ≤ (p2 1574 : Int) := fun a ha => by
    obtain ⟨x, hx, rfl⟩ := List.mem_map.1 ha
    exact val_cf (r5 x hx)
  refine ⟨St.cnt_none hM hd ho ?_, ?_⟩
  · rw [val_top.2]; exact Int.le_refl _
  · have := St.cnt_all hM hd ho (x := val (atW 6867989431740006400)) (by rw [val_top.1]; exact Int.le_refl _)
    rw [this, List.length_map]
theorem over_mono {d o : List Nat} {k p q : Int} (hp : -6867989431740006400 ≤ p) (hpq : p ≤ q) (hq : q ≤ 6867989431740006400) (h : over d o k p = true) : over d o k q = true := by
  unfold over at *
  have h := of_decide_eq_true h
  have := St.cnt_mono (val_mono (x := atW p) (y := atW q) (by rw [(atW_p hp (by omega)).1, (atW_p (by omega) hq).1]; exact hpq)) (d.map val) (o.map val)
  exact decide_eq_true (by omega)
theorem find_good {d o : List Nat} {k : Int} (hr : rightB d o = true) (h0 : 0 ≤ k) (h1 : k < d.length) : ∃ P : Int, findE d o k = 0 ∧ findL d o k = atW P ∧ findH d o k = atW (P + 1) ∧ -6867989431740006400 ≤ P ∧ P + 1 ≤ 6867989431740006400 ∧ over d o k P = false ∧ over d o k (P + 1) = true := by
  have he : findE d o k = 0 := by unfold findE; rw [if_pos hr, if_neg (by omega), if_neg (by omega)]
  obtain ⟨c1, c2⟩ := cnt_ends hr
  have lo : over d o k (-6867989431740006400) = false := by unfold over; rw [c1]; exact decide_eq_false (by omega)
  have hi : over d o k 6867989431740006400 = true := by unfold over; rw [c2]; exact decide_eq_true (by omega)
  have el : findL d o k = atW (findP d o k).1 := if_pos he
  have eh : findH d o k = atW (findP d o k).2 := if_pos he
  have key : -6867989431740006400 ≤ (findP d o k).1 ∧ (findP d o k).2 = (findP d o k).1 + 1 ∧ (findP d o k).2 ≤ 6867989431740006400 ∧ over d o k (findP d o k).1 = false ∧ over d o k (findP d o k).2 = true := by
    unfold findP
    cases hz : over d o k 0
    · rw [if_neg (by simp)]
      have := hlv_inv (over d o k) 64 0 6867989431740006400 (by decide) (by rw [two64]; decide) hz hi
      exact ⟨Int.le_trans (by decide) this.1, this.2.1, this.2.2.1, this.2.2.2⟩
    · rw [if_pos rfl]
      have := hlv_inv (over d o k) 64 (-6867989431740006400) 0 (by decide) (by rw [two64]; decide) lo hz
      exact ⟨this.1, this.2.1, Int.le_trans this.2.2.1 (by decide), this.2.2.2⟩
  refine ⟨(findP d o k).1, he, el, ?_, key.1, ?_, key.2.2.2.1, ?_⟩
  · rw [eh, key.2.1]
  · rw [← key.2.1]; exact key.2.2.1
  · rw [← key.2.1]; exact key.2.2.2.2
/-- The next eigenvalue's is no less. -/
theorem find_next {d o : List Nat} {k P Q : Int} (hP : -6867989431740006400 ≤ P) (hP2 : P + 1 ≤ 6867989431740006400) (hQ : -6867989431740006400 ≤ Q) (hQ2 : Q + 1 ≤ 6867989431740006400) (h1 : over d o k P = false) (h2 : over d o (k + 1) (Q + 1) = true) : P ≤ Q := by
  rcases (by omega : Q < P ∨ P ≤ Q) with h | h
  · have h3 : over d o k (Q + 1) = true := by unfold over at *; have := of_decide_eq_true h2; exact decide_eq_true (by omega)
    have := over_mono (by omega) (by omega : Q + 1 ≤ P) (by omega) h3
    rw [h1] at this; cases this
  · exact h
/-- What is found is counted. -/
theorem found {d o : List Nat} {p : Int} (hr : rightB d o = true) (h1 : -6867989431740006400 ≤ p) (h2 : p ≤ 6867989431740006400) : wrongE d o (atW p) = 0 ∧ exactN d o (atW p) = St.cnt (val (atW p)) (d.map val) (o.map val) := by
  have e := (atW_r h1 h2).1
  have hw : wrongE d o (atW p) = 0 := by unfold wrongE; rw [if_pos hr, if_neg (by omega), if_neg (by omega)]
  exact ⟨hw, if_pos hw⟩
end Go.Proofs.YtfjiojdnbdfenaaDoor


/- girderkit.Pick. -/
namespace Go.Proofs.YtfjiojdnbdfenaaDoor
open Go Go.RowKit Nv GFl
set_option maxRecDepth 100000
set_option linter.unusedSimpArgs false

theorem pick_e (x n : Int) (h1 : 1 ≤ n) (h2 : n ≤ 100) : ∃ K : Int, 0 ≤ K ∧ K < n ∧ ∀ W : World, Calls Tryd.prog 30 #[.int .i64 x, .int .i64 n] W fun e w' => e = .returned (.int .i64 K) ∧ W = w' := by
  have k1 : decide (n < 1) = false := decide_eq_false (by omega)
  have k2 : n ≠ 0 := by omega
  have m1 := Int.tmod_lt_of_pos x (show (0 : Int) < n by omega)
  have m2 : -n < x.tmod n := by
    have := Int.lt_tmod_of_pos x (show (0 : Int) < n by omega)
    omega
  have e1 : IntKind.i64.wrap (x.tmod n) = x.tmod n := by rw [IntKind.wrap_i64]; omega
  obtain ⟨m, hm⟩ : ∃ m, x.tmod n = m := ⟨_, rfl⟩
  rw [hm] at e1 m1 m2
  by_cases hn : m < 0
  · have k3 : decide (m < 0) = true := decide_eq_true hn
    refine ⟨m + n, by omega, by omega, fun W => ?_⟩
    go_enter Tryd.func30, Tryd.ntmps30
    go_wp2
    go_ret
    exact ⟨ret_int (by omega), rfl⟩
  · have k3 : decide (m < 0) = false := decide_eq_false hn
    refine ⟨m, by omega, by omega, fun W => ?_⟩
    go_enter Tryd.func30, Tryd.ntmps30
    go_wp2
    go_ret
    exact ⟨ret_int (by omega), rfl⟩
end Go.Proofs.YtfjiojdnbdfenaaDoor


/- girderlaw17.SturmBetween. -/
namespace Go.Proofs.YtfjiojdnbdfenaaDoor
open Go Go.RowKit Nv GFl
set_option maxRecDepth 100000
set_option linter.unusedSimpArgs false

/-- A world with the chain laid out. -/
structure CB (W w : World) (u v : Value) : Prop where
  b : Below W.heap.size W w
  r : w.heap[W.heap.size]? = some (.cells #[u, v] 24 (0, 0))
theorem CB.start (W : World) (u v : Value) : CB W (W.alloc (.cells #[u, v] 24)) u v := ⟨bl_alloc (Below.refl _ _) _, kb_new (Below.refl _ _)⟩
theorem CB.then {W w w' : World} {u v : Value} (h : CB W w u v) (hb : Below w.heap.size w w') : CB W w' u v := ⟨bl_then h.b hb, kb_keep hb h.r⟩
theorem CB.drewN {W w : World} {u v : Value} (h : CB W w u v) (n : Nat) : CB W (w.drewN n) u v := ⟨bl_drewN h.b n, h.r⟩
theorem CB.drew {W w : World} {u v : Value} (h : CB W w u v) : CB W w.drew u v := ⟨bl_drew h.b, h.r⟩
theorem ge_of {P Q : Int} (hP : -6867989431740006400 ≤ P) (hP2 : P ≤ 6867989431740006400) (hQ : -6867989431740006400 ≤ Q) (hQ2 : Q ≤ 6867989431740006400) (h : P ≤ Q) : (FloatKind.f64.format.order (atW Q) (atW P) == some .gt || FloatKind.f64.format.order (atW Q) (atW P) == some .eq) = true := by
  rw [t_ge (atW_r hQ hQ2).2.1 (atW_r hP hP2).2.1, (atW_p hP hP2).1, (atW_p hQ hQ2).1, (atW_p hP hP2).2.1, (atW_p hQ hQ2).2.1]
  simp [h]
/-- What the law asks, laid out: K the number, P the place, a and b the counts. -/
structure BF (A B : Option Addr) (cA cB : Nat) (d o : List Nat) (W : World) (K P a b : Int) : Prop where
  f : ∀ w, Below W.heap.size W w → Calls Tryd.prog 31 #[.agg #[.slice A d.length cA, .slice B o.length cB], .int .i64 K] w fun e w' => e = .returned (.tuple #[.float .f64 (atW P), .float .f64 (atW (P + 1)), .int .i64 0]) ∧ Below w.heap.size w w'
  e1 : ∀ w, Below W.heap.size W w → Calls Tryd.prog 15 #[.agg #[.slice A d.length cA, .slice B o.length cB], .float .f64 (atW P)] w fun e w' => e = .returned (.tuple #[.int .i64 a, .int .i64 0]) ∧ Below w.heap.size w w'
  e2 : ∀ w, Below W.heap.size W w → Calls Tryd.prog 15 #[.agg #[.slice A d.length cA, .slice B o.length cB], .float .f64 (atW (P + 1))] w fun e w' => e = .returned (.tuple #[.int .i64 b, .int .i64 0]) ∧ Below w.heap.size w w'
  p1 : ∀ w, Calls Tryd.prog 32 #[.float .f64 (atW P)] w fun e w' => e = .returned (.tuple #[.int .i64 P, .bool true]) ∧ w' = w
  p2 : ∀ w, Calls Tryd.prog 32 #[.float .f64 (atW (P + 1))] w fun e w' => e = .returned (.tuple #[.int .i64 (P + 1), .bool true]) ∧ w' = w
  ak : a ≤ K
  kb : K < b
  h1 : -6867989431740006400 ≤ P
  h2 : P + 1 ≤ 6867989431740006400
set_option maxHeartbeats 1000000 in
theorem bf_of {W : World} (A B : Option Addr) (cA cB : Nat) (d o : List Nat) (hA : d.length ≤ cA) (hB : o.length ≤ cB) (hd : Fl W A d) (ho : Fl W B o) (wd : ∀ x ∈ d, W64 x) (wo : ∀ x ∈ o, W64 x) (hT : Tab W) (hr : rightB d o = true) (K : Int) (h0 : 0 ≤ K) (h1 : K < d.length) :
    ∃ P a b, BF A B cA cB d o W K P a b ∧ over d o K P = false := by
  obtain ⟨P, g1, g2, g3, g4, g5, g6, g7⟩ := find_good hr h0 h1
  obtain ⟨u1, u2⟩ := found (d := d) (o := o) (p := P) hr g4 (by omega)
  obtain ⟨v1, v2⟩ := found (d := d) (o := o) (p := P + 1) hr (by omega) g5
  have q1 := atW_p (p := P) g4 (by omega)
  have q2 := atW_p (p := P + 1) (by omega) g5
  refine ⟨P, exactN d o (atW P), exactN d o (atW (P + 1)), ⟨fun w h => ?_, fun w h => ?_, fun w h => ?_, fun w => ?_, fun w => ?_, ?_, ?_, g4, g5⟩, g6⟩
  · have := find_c A B cA cB d o K w (hd.below h) (ho.below h) hA hB wd wo (hT.below h)
    rw [g1, g2, g3] at this
    exact this
  · have := exact_c A B cA cB d o (atW P) w (hd.below h) (ho.below h) hA hB wd wo (atW_r g4 (by omega)).2.1 (hT.below h)
    rw [u1] at this
    exact this
  · have := exact_c A B cA cB d o (atW (P + 1)) w (hd.below h) (ho.below h) hA hB wd wo (atW_r (by omega) g5).2.1 (hT.below h)
    rw [v1] at this
    exact this
  · have := place_c (atW P) (atW_r g4 (by omega)).2.1 w
    rw [q1.2.2, q1.2.1] at this
    exact this
  · have := place_c (atW (P + 1)) (atW_r (by omega) g5).2.1 w
    rw [q2.2.2, q2.2.1] at this
    exact this
  · rw [u2]; exact Int.not_lt.1 (of_decide_eq_false g6)
  · rw [v2]; exact of_decide_eq_true g7
set_option maxHeartbeats 4000000 in
theorem sturmBetween_no {W : World} (A B : Option Addr) (cA cB : Nat) (d o : List Nat) (k : Int) (hd : Fl W A d) (ho : Fl W B o) (wd : ∀ x ∈ d, W64 x) (wo : ∀ x ∈ o, W64 x) (hT : Tab W) (h : d.length = 0 ∨ 8 < d.length ∨ rightB d o = false) :
    Calls Tryd.prog 9 #[.agg #[.slice A d.length cA, .slice B o.length cB], .int .i64 k] W fun e w' => e = .returned (.bool true) ∧ Below W.heap.size W w' := by
  have aw : ∀ w, Below W.heap.size W w → Calls Tryd.prog 11 #[] w fun e w' => e = .returned (.bool true) ∧ Below w.heap.size w w' := fun w h => awake_c w (hT.below h)
  have rc : ∀ w, Below W.heap.size W w → Calls Tryd.prog 13 #[.agg #[.slice A d.length cA, .slice B o.length cB]] w fun e w' => e = .returned (.bool (rightB d o)) ∧ Below w.heap.size w w' := fun w h => right_c A B cA cB d o w (hd.below h) (ho.below h) wd wo
  have C0 := Lib.hid (CB.start W (.slice A d.length cA) (.slice B o.length cB))
  have AW := Lib.hid aw
  have RC := Lib.hid rc
  have H := Lib.hid h
  obtain ⟨r, hr⟩ : ∃ r, rightB d o = r := ⟨_, rfl⟩
  rw [hr] at RC H
  clear h hd ho wd wo hT aw rc hr
  by_cases k0 : d.length = 0
  · have k1 : ((d.length : Int) == 0) = true := by simpa using k0
    clear k0
    go_enter Tryd.func9, Tryd.ntmps9
    go_wp2_with (first
      | (go_at_call 11; (with_reducible refine (AW.out _ C0.out.b).mono ?_); rintro e w1 ⟨rfl, hb⟩; have c := CB.then C0.out hb; have cc0 := kb_cell c.r (i := 0) rfl; have cc1 := kb_cell c.r (i := 1) rfl; have C0 := Lib.hid c; clear c hb))
    go_ret
    exact ⟨rfl, by first | exact C0.out.b | exact bl_drewN C0.out.b _⟩
  · have k1 : ((d.length : Int) == 0) = false := by simpa using k0
    by_cases h8 : 8 < d.length
    · have k2 : decide (8 < (d.length : Int)) = true := decide_eq_true (by omega)
      clear k0 h8
      go_enter Tryd.func9, Tryd.ntmps9
      go_wp2_with (first
        | (go_at_call 11; (with_reducible refine (AW.out _ C0.out.b).mono ?_); rintro e w1 ⟨rfl, hb⟩; have c := CB.then C0.out hb; have cc0 := kb_cell c.r (i := 0) rfl; have cc1 := kb_cell c.r (i := 1) rfl; have C0 := Lib.hid c; clear c hb))
      go_ret
      exact ⟨rfl, by first | exact C0.out.b | exact bl_drewN C0.out.b _⟩
    · have k2 : decide (8 < (d.length : Int)) = false := decide_eq_false (by omega)
      have k3 : r = false := by rcases H.out with h | h | h; exact absurd h k0; exact absurd h h8; exact h
      subst k3
      clear k0 h8
      go_enter Tryd.func9, Tryd.ntmps9
      go_wp2_with (first
        | (go_at_call 11; (with_reducible refine (AW.out _ C0.out.b).mono ?_); rintro e w1 ⟨rfl, hb⟩; have c := CB.then C0.out hb; have cc0 := kb_cell c.r (i := 0) rfl; have cc1 := kb_cell c.r (i := 1) rfl; have C0 := Lib.hid c; clear c hb)
        | (go_at_call 13; (with_reducible refine (RC.out _ C0.out.b).mono ?_); rintro e w2 ⟨rfl, hb⟩; have c := CB.then C0.out hb; have cc0 := kb_cell c.r (i := 0) rfl; have cc1 := kb_cell c.r (i := 1) rfl; have C0 := Lib.hid c; clear c hb))
      go_ret
      exact ⟨rfl, by first | exact C0.out.b | exact bl_drewN C0.out.b _⟩
set_option maxHeartbeats 8000000 in
theorem sturmBetween_yes {W : World} (A B : Option Addr) (cA cB : Nat) (d o : List Nat) (k : Int) (hA : d.length ≤ cA) (hB : o.length ≤ cB) (hd : Fl W A d) (ho : Fl W B o) (wd : ∀ x ∈ d, W64 x) (wo : ∀ x ∈ o, W64 x) (hT : Tab W) (h0 : d.length ≠ 0) (h8 : d.length ≤ 8) (hr : rightB d o = true) :
    Calls Tryd.prog 9 #[.agg #[.slice A d.length cA, .slice B o.length cB], .int .i64 k] W fun e w' => e = .returned (.bool true) ∧ Below W.heap.size W w' := by
  have aw : ∀ w, Below W.heap.size W w → Calls Tryd.prog 11 #[] w fun e w' => e = .returned (.bool true) ∧ Below w.heap.size w w' := fun w h => awake_c w (hT.below h)
  have rc : ∀ w, Below W.heap.size W w → Calls Tryd.prog 13 #[.agg #[.slice A d.length cA, .slice B o.length cB]] w fun e w' => e = .returned (.bool (rightB d o)) ∧ Below w.heap.size w w' := fun w h => right_c A B cA cB d o w (hd.below h) (ho.below h) wd wo
  have C0 := Lib.hid (CB.start W (.slice A d.length cA) (.slice B o.length cB))
  obtain ⟨K, hK0, hK1, pk⟩ := pick_e k d.length (by omega) (by omega)
  obtain ⟨P, a, b, F, hov⟩ := bf_of A B cA cB d o hA hB hd ho wd wo hT hr K hK0 hK1
  have fn : ∃ (x y : Nat) (E : Int), (∀ w, Below W.heap.size W w → Calls Tryd.prog 31 #[.agg #[.slice A d.length cA, .slice B o.length cB], .int .i64 (K + 1)] w fun e w' => e = .returned (.tuple #[.float .f64 x, .float .f64 y, .int .i64 E]) ∧ Below w.heap.size w w') ∧
      ((K + 1 == (d.length : Int)) = true ∧ E = 270 ∧ x = 0 ∨ (K + 1 == (d.length : Int)) = false ∧ E = 0 ∧ (FloatKind.f64.format.order x (atW P) == some .gt || FloatKind.f64.format.order x (atW P) == some .eq) = true) := by
    by_cases hl : K + 1 = (d.length : Int)
    · have he : findE d o (K + 1) = 270 := by unfold findE; rw [if_pos hr, if_neg (by omega), if_pos (by omega)]
      have hx : findL d o (K + 1) = 0 := if_neg (by rw [he]; decide)
      refine ⟨findL d o (K + 1), findH d o (K + 1), findE d o (K + 1), fun w h => find_c A B cA cB d o (K + 1) w (hd.below h) (ho.below h) hA hB wd wo (hT.below h), Or.inl ⟨by simpa using hl, he, hx⟩⟩
    · obtain ⟨Q, a', b', F', hov'⟩ := bf_of A B cA cB d o hA hB hd ho wd wo hT hr (K + 1) (by omega) (by omega)
      obtain ⟨Q', g1, g2, g3, g4, g5, g6, g7⟩ := find_good hr (show 0 ≤ K + 1 by omega) (show K + 1 < d.length by omega)
      refine ⟨findL d o (K + 1), findH d o (K + 1), findE d o (K + 1), fun w h => find_c A B cA cB d o (K + 1) w (hd.below h) (ho.below h) hA hB wd wo (hT.below h), Or.inr ⟨by simpa using hl, g1, ?_⟩⟩
      rw [g2]
      exact ge_of F.h1 (by have := F.h2; omega) g4 (by omega) (find_next F.h1 F.h2 g4 g5 hov g7)
  obtain ⟨x, y, E, nx, hE⟩ := fn
  have k1 : ((d.length : Int) == 0) = false := by simpa using h0
  have k2 : decide (8 < (d.length : Int)) = false := decide_eq_false (by omega)
  have k3 : decide (K < a) = false := decide_eq_false (by have := F.ak; omega)
  have k4 : decide (b ≤ K) = false := decide_eq_false (by have := F.kb; omega)
  have ep : wrap64 (P + 1) = P + 1 := by have h1 := F.h1; have h2 := F.h2; unfold wrap64; omega
  have ek : wrap64 (K + 1) = K + 1 := by unfold wrap64; omega
  rw [hr] at rc
  have AW := Lib.hid aw
  have RC := Lib.hid rc
  have PK := Lib.hid pk
  have FF := Lib.hid F.f
  have E1 := Lib.hid F.e1
  have E2 := Lib.hid F.e2
  have P1 := Lib.hid F.p1
  have P2 := Lib.hid F.p2
  have NX := Lib.hid nx
  clear nx F pk rc aw hov h0 h8 hr hd ho hA hB wd wo hT hK0 hK1
  have z0 : (FloatKind.f64.format.order 0 0 == some .eq) = true := by decide
  rcases hE with ⟨t1, rfl, rfl⟩ | ⟨t1, rfl, t2⟩
  all_goals
    go_enter Tryd.func9, Tryd.ntmps9
    go_wp2_with (first
      | (go_at_call 11; (with_reducible refine (AW.out _ C0.out.b).mono ?_); rintro e w1 ⟨rfl, hb⟩; have c := CB.then C0.out hb; have cc0 := kb_cell c.r (i := 0) rfl; have cc1 := kb_cell c.r (i := 1) rfl; have C0 := Lib.hid c; clear c hb)
      | (go_at_call 13; (with_reducible refine (RC.out _ C0.out.b).mono ?_); rintro e w2 ⟨rfl, hb⟩; have c := CB.then C0.out hb; have cc0 := kb_cell c.r (i := 0) rfl; have cc1 := kb_cell c.r (i := 1) rfl; have C0 := Lib.hid c; clear c hb)
      | (go_at_call 30; (with_reducible refine (PK.out _).mono ?_); rintro e w' ⟨rfl, hw⟩; obtain rfl := hw.symm; clear hw)
      | (go_at_call 31; (with_reducible refine (FF.out _ C0.out.b).mono ?_); rintro e w3 ⟨rfl, hb⟩; have c := CB.then C0.out hb; have cc0 := kb_cell c.r (i := 0) rfl; have cc1 := kb_cell c.r (i := 1) rfl; have C0 := Lib.hid c; clear c hb)
      | (go_at_call 31; (with_reducible refine (NX.out _ C0.out.b).mono ?_); rintro e w3 ⟨rfl, hb⟩; have c := CB.then C0.out hb; have cc0 := kb_cell c.r (i := 0) rfl; have cc1 := kb_cell c.r (i := 1) rfl; have C0 := Lib.hid c; clear c hb)
      | (go_at_call 15; (with_reducible refine (E1.out _ C0.out.b).mono ?_); rintro e w3 ⟨rfl, hb⟩; have c := CB.then C0.out hb; have cc0 := kb_cell c.r (i := 0) rfl; have cc1 := kb_cell c.r (i := 1) rfl; have C0 := Lib.hid c; clear c hb)
      | (go_at_call 15; (with_reducible refine (E2.out _ C0.out.b).mono ?_); rintro e w3 ⟨rfl, hb⟩; have c := CB.then C0.out hb; have cc0 := kb_cell c.r (i := 0) rfl; have cc1 := kb_cell c.r (i := 1) rfl; have C0 := Lib.hid c; clear c hb)
      | (go_at_call 32; (with_reducible refine (P1.out _).mono ?_); rintro e w' ⟨rfl, hw⟩; obtain rfl := hw.symm; clear hw)
      | (go_at_call 32; (with_reducible refine (P2.out _).mono ?_); rintro e w' ⟨rfl, hw⟩; obtain rfl := hw.symm; clear hw))
    go_ret
    exact ⟨rfl, by first | exact C0.out.b | exact bl_drewN C0.out.b _⟩
theorem sturmBetween_c {W : World} (A B : Option Addr) (cA cB : Nat) (d o : List Nat) (k : Int) (hA : d.length ≤ cA) (hB : o.length ≤ cB) (hd : Fl W A d) (ho : Fl W B o) (wd : ∀ x ∈ d, W64 x) (wo : ∀ x ∈ o, W64 x) (_ : -9223372036854775808 ≤ k) (_ : k ≤ 9223372036854775807) (hT : Tab W) :
    Calls Tryd.prog 9 #[.agg #[.slice A d.length cA, .slice B o.length cB], .int .i64 k] W fun e w' => e = .returned (.bool true) ∧ Below W.heap.size W w' := by
  by_cases h : d.length = 0 ∨ 8 < d.length ∨ rightB d o = false
  · exact sturmBetween_no A B cA cB d o k hd ho wd wo hT h
  · refine sturmBetween_yes A B cA cB d o k hA hB hd ho wd wo hT (fun h0 => h (Or.inl h0)) ?_ ?_
    · rcases Nat.lt_or_ge 8 d.length with h8 | h8
      · exact absurd (Or.inr (Or.inl h8)) h
      · exact h8
    · cases hr : rightB d o
      · exact absurd (Or.inr (Or.inr hr)) h
      · rfl
end Go.Proofs.YtfjiojdnbdfenaaDoor


/- What Least answers of a chord (plain). -/
namespace Go.Proofs.YtfjiojdnbdfenaaDoor
open Go Nv GFl Ieee
set_option maxRecDepth 100000

theorem zeroW : W64 0 := w_const (by decide)
theorem val0 : val 0 = 0 := by decide
/-- A good chord: counted at 0. -/
theorem ch_right {p l : List Nat} {s : Nat} (h : Gd p l s) : rightB (chD p l s) (chO p l s) = true ∧ wrongE (chD p l s) (chO p l s) 0 = 0 ∧ exactN (chD p l s) (chO p l s) 0 = St.cnt 0 ((chD p l s).map val) ((chO p l s).map val) := by
  obtain ⟨h1, h2, h3, h4⟩ := ch_cf h
  have hn := h.n
  have hr : rightB (chD p l s) (chO p l s) = true := by
    unfold rightB okF
    simp only [Bool.and_eq_true, decide_eq_true_eq, List.all_eq_true]
    exact ⟨⟨by omega, by omega, by omega⟩, fun x hx => (h1 x hx).r, fun x hx => (h2 x hx).r⟩
  have hw : wrongE (chD p l s) (chO p l s) 0 = 0 := by
    unfold wrongE
    rw [if_pos hr, if_neg (by decide), if_neg (by decide)]
  refine ⟨hr, hw, ?_⟩
  unfold exactN
  rw [if_pos hw, val0]
theorem gv_n {p l : List Nat} {s : Nat} (h : Gd p l s) : (gvB p l s = false → exactN (chD p l s) (chO p l s) 0 = 0) ∧ (gvB p l s = true → 0 < exactN (chD p l s) (chO p l s) 0) := by
  rw [(ch_right h).2.2]
  have := (St.cnt_range 0 ((chD p l s).map val) ((chO p l s).map val)).1
  unfold gvB
  exact ⟨fun h => by have := of_decide_eq_false h; omega, fun h => of_decide_eq_true h⟩
theorem ps0 : Ps 0 := ⟨zeroW, by decide, by decide⟩
theorem ps_r2 {s : Nat} (h : Ps s) : 0 ≤ plc s ∧ plc s ≤ 4877398396442247168 := by have := h.hi; rw [h.pos]; omega
/-- Least's answer. -/
theorem least_good {p l : List Nat} {s : Nat} (h : Gd p l s) (hg : gvB p l s = true) : ∃ P : Int, leastE p l s = 0 ∧ leastL p l s = atW P ∧ leastH p l s = atW (P + 1) ∧ 0 ≤ P ∧ P + 1 ≤ plc s ∧ gvB p l (atW P) = false ∧ gvB p l (atW (P + 1)) = true := by
  have he : leastE p l s = 0 := by unfold leastE; rw [if_pos (gd_mk h), if_pos hg]
  have hr := ps_r2 h.s
  have h0 : rg s ≠ 0 := fun h0 => by rw [gv_zero h h0] at hg; cases hg
  have hn : neg s = false := by
    have := h.s.pos
    rw [plc_eq] at this
    cases hn : neg s
    · rfl
    · rw [hn] at this; simp only [if_true] at this; omega
  have es : atW (plc s) = s := by
    unfold atW
    rw [plc_eq, hn]
    have e : decide ((if false = true then -(rg s : Int) else (rg s : Int)) < 0) = false := by simp
    rw [e]
    have e2 : (if false = true then -(rg s : Int) else (rg s : Int)).natAbs = rg s := by simp
    rw [e2, ← hn]
    exact (w64_wd h.s.w).symm
  have lo : gvB p l (atW 0) = false := gv_zero (h.push (by rw [show atW 0 = 0 by decide]; exact ps0)) (by decide)
  have hi : gvB p l (atW (plc s)) = true := by rw [es]; exact hg
  have hpos : 0 < plc s := by rw [h.s.pos]; omega
  have key := hlv_inv (fun q => gvB p l (atW q)) 64 0 (plc s) hpos (by rw [two64]; omega) lo hi
  have el : leastL p l s = atW (leastP p l s).1 := if_pos he
  have eh : leastH p l s = atW (leastP p l s).2 := if_pos he
  have key : 0 ≤ (leastP p l s).1 ∧ (leastP p l s).2 = (leastP p l s).1 + 1 ∧ (leastP p l s).2 ≤ plc s ∧ gvB p l (atW (leastP p l s).1) = false ∧ gvB p l (atW (leastP p l s).2) = true := key
  refine ⟨(leastP p l s).1, he, el, ?_, key.1, ?_, key.2.2.2.1, ?_⟩
  · rw [eh, key.2.1]
  · rw [← key.2.1]; exact key.2.2.1
  · rw [← key.2.1]; exact key.2.2.2.2
/-- The sign of a difference. -/
theorem dif_neg {x y : Nat} (hx : W64 x) (hy : W64 y) (fx : rg x < 9218868437227405312) (fy : rg y < 9218868437227405312) : decide (val (fsub x y) < 0) = decide (plc x < plc y) := by
  obtain ⟨r, hr, e⟩ := sub64 hx hy fx fy
  have lt : val x < val y ↔ plc x < plc y := sv_lt_iff
  rw [fsub_of e, val_wd (by have := Nat.min_le_right r 9218868437227405312; omega)]
  have pos : val x - val y ≠ 0 → 0 < mg B52 (min r 9218868437227405312) := fun h => by
    have : r ≠ 0 := fun h0 => by
      subst h0
      have := hr.up
      rw [mg_zero _ B52_pos, mg_small (by decide)] at this
      omega
    exact Nat.lt_of_lt_of_le (by omega) (le_mg B52 _ B52_pos)
  rw [Bool.eq_iff_iff, decide_eq_true_eq, decide_eq_true_eq, ← lt]
  by_cases h0 : val x - val y = 0
  · have hr' : IsRn B52 (val x - val y).natAbs 1 r := hr
    rw [h0] at hr'
    have h1 : ¬ val x < val y := by omega
    have r0 : r = 0 := hr'.unique B52_pos (by decide) (IsRn.zero B52_pos (by decide))
    rw [r0, Nat.zero_min, mg_zero _ B52_pos]
    constructor
    · intro h2; split at h2 <;> simp at h2
    · intro h2; exact absurd h2 h1
  · have hm := pos h0
    generalize mg B52 (min r 9218868437227405312) = m at *
    rw [if_neg h0]
    by_cases h1 : val x - val y < 0
    · rw [decide_eq_true h1]; simp only [if_true]; omega
    · rw [decide_eq_false h1]; simp only [Bool.false_eq_true, if_false]; omega
/-- One prop. -/
theorem one_prop {p l : List Nat} {s : Nat} (h : Gd p l s) (h1 : p.length = 1) : ∃ (i0 : 0 < p.length) (j0 : 0 < l.length) (j1 : 1 < l.length), double.div s l[0] = some (fdiv s l[0]) ∧ double.div s l[1] = some (fdiv s l[1]) ∧ double.add (fdiv s l[0]) (fdiv s l[1]) = some (fadd (fdiv s l[0]) (fdiv s l[1])) ∧
    (exactN (chD p l s) (chO p l s) 0 == 1) = (double.order p[0] (fadd (fdiv s l[0]) (fdiv s l[1])) == some .lt) := by
  have hn := h.n
  refine ⟨by omega, by omega, by omega, ?_⟩
  have j0 : 0 < l.length := by omega
  have j1 : 1 < l.length := by omega
  have i0 : 0 < p.length := by omega
  obtain ⟨x1, x2, x3, _⟩ := quo_ok h.s (h.l _ (List.getElem_mem j0))
  obtain ⟨y1, y2, y3, _⟩ := quo_ok h.s (h.l _ (List.getElem_mem j1))
  obtain ⟨z1, z2, z3⟩ := add_ok x2 y2 x3 y3
  obtain ⟨t1, t2, t3⟩ := dif_ok (h.p _ (List.getElem_mem i0)) z2 z3
  have hp := h.p _ (List.getElem_mem i0)
  refine ⟨x1, y1, z1, ?_⟩
  have eD : chD p l s = [fsub p[0] (fadd (fdiv s l[0]) (fdiv s l[1]))] := by
    unfold chD chDk
    rw [if_pos (gd_mk h), h1]
    simp only [List.range_one, List.map_cons, List.map_nil, List.getD_eq_getElem?_getD, List.getElem?_eq_getElem i0, List.getElem?_eq_getElem j0, List.getElem?_eq_getElem (show 0 + 1 < l.length from j1), Option.getD_some]
  have eO : chO p l s = [] := by
    unfold chO chOk
    rw [if_pos (gd_mk h), h1]; rfl
  have fz : rg (fadd (fdiv s l[0]) (fdiv s l[1])) < 9218868437227405312 := Nat.lt_of_le_of_lt z3 (by decide)
  have fp : rg p[0] < 9218868437227405312 := by have := hp.hi; omega
  rw [(ch_right h).2.2, eD, eO, o_lt hp.w z2.w, z2.isn, show isn p[0] = false by rw [isn_eq]; simp; omega, ← dif_neg hp.w z2.w fp fz]
  have e := St.cnt_zeros 0 [val (fsub p[0] (fadd (fdiv s l[0]) (fdiv s l[1])))] [] (fun y hy => by cases hy)
  show (St.cnt 0 [val (fsub p[0] (fadd (fdiv s l[0]) (fdiv s l[1])))] [] == 1) = _
  rw [e]
  generalize val (fsub p[0] (fadd (fdiv s l[0]) (fdiv s l[1]))) = v
  by_cases hv : v < 0 <;> simp [hv]
end Go.Proofs.YtfjiojdnbdfenaaDoor


/- girderlaw17.SturmParts. -/
namespace Go.Proofs.YtfjiojdnbdfenaaDoor
open Go Go.RowKit Nv GFl Ieee
open Go.Proofs.YtfjiojdnbdfenaaDoorW.PrintWords (Kd print_append_row_of)
set_option maxRecDepth 100000
set_option linter.unusedSimpArgs false

theorem copy_c (A : Option Addr) (c : Nat) (l : List Nat) (W : World) (hl : Fl W A l) (hn : l.length ≤ 1000) :
    Calls Tryd.prog 29 #[.slice A l.length c] W fun e w' => ∃ v, e = .returned v ∧ Ow w' W.heap.size v l ∧ Below W.heap.size W w' := by
  go_enter Tryd.func29, Tryd.ntmps29
  go_wp2_with (first
    | (at_builtin; (refine print_append_row_of (w0 := W) (Value.float .f64) 0 W.heap.size rfl (.tmp 4) (.tmp 5) 22 25 (.float .f64 0) 8 rfl Tryd.underlying22 f_info rfl (by decide) (fun _ => rfl) (.slice none 0 0) [] l A l.length c rfl rfl (World.ownsRow_nil _ _ _ _) (Kd.reads_of_C hl) (Below.refl _ _) (Nat.le_refl _) (by simp; omega) ?_); intro v1 w1 hown hb hg hat))
  exact bodyPost_ret (v := v1) (by simp [results, Tryd.results29, go_sem]) rfl ⟨v1, rfl, by simpa [Go.Proofs.YtfjiojdnbdfenaaDoorW.PrintWords.encs] using hown, hb⟩
/-- The numbers below x. -/
def blw (D : List Nat) (x : Nat) : Int := ((D.filter fun a => decide (plc a < plc x)).length : Nat)
theorem blw_exact {D : List Nat} {x : Nat} (h : wrongE D (List.replicate (D.length - 1) 0) x = 0) : exactN D (List.replicate (D.length - 1) 0) x = blw D x := by
  unfold exactN
  rw [if_pos h, St.cnt_zeros]
  · unfold blw
    rw [List.filter_map, List.length_map]
    have e : ((fun a : Int => decide (a < val x)) ∘ val) = fun a => decide (plc a < plc x) := by
      funext a
      have : val a < val x ↔ plc a < plc x := sv_lt_iff
      simp [this]
    rw [e]
  · intro y hy
    obtain ⟨z, hz, rfl⟩ := List.mem_map.1 hy
    rw [List.eq_of_mem_replicate hz]; decide
/-- What couples, as the law takes it. -/
def offOk (y : Nat) : Bool := decide (rg y < 9218868437227405312) && decide (plc y < 6103021453049119613) && decide (-6103021453049119613 < plc y)
def offAt (q : List Nat) (i : Nat) : Nat := if i < q.length ∧ offOk (q.getD i 0) = true then q.getD i 0 else 4607182418800017408
def offs (q : List Nat) (n : Nat) : List Nat := (List.range n).map (offAt q)
theorem offs_len (q : List Nat) (n : Nat) : (offs q n).length = n := by unfold offs; simp
theorem offs_succ (q : List Nat) (n : Nat) : offs q (n + 1) = offs q n ++ [offAt q n] := by unfold offs; rw [List.range_succ, List.map_append]; rfl
theorem offAt_ok (q : List Nat) (wq : ∀ x ∈ q, W64 x) (i : Nat) : Cf (offAt q i) := by
  unfold offAt
  split
  · rename_i h
    obtain ⟨h1, h2⟩ := h
    rw [List.getD_eq_getElem?_getD, List.getElem?_eq_getElem h1, Option.getD_some] at h2 ⊢
    unfold offOk at h2
    simp only [Bool.and_eq_true, decide_eq_true_eq] at h2
    have := plc_natAbs q[i]
    exact ⟨wq _ (List.getElem_mem h1), by omega⟩
  · exact ⟨w_const (by decide), by decide⟩
theorem right_of {D O : List Nat} {x : Nat} (h1 : 1 ≤ D.length) (h2 : D.length ≤ 64) (h3 : O.length + 1 = D.length) (hd : ∀ y ∈ D, rg y ≤ 6858982232485265408) (ho : ∀ y ∈ O, rg y ≤ 6858982232485265408) (hx : rg x ≤ 6867989431740006400) :
    wrongE D O x = 0 ∧ exactN D O x = St.cnt (val x) (D.map val) (O.map val) := by
  have hr : rightB D O = true := by
    unfold rightB okF
    simp only [Bool.and_eq_true, decide_eq_true_eq, List.all_eq_true]
    exact ⟨⟨h1, h2, h3⟩, hd, ho⟩
  have hw : wrongE D O x = 0 := by unfold wrongE; rw [if_pos hr, if_neg (by omega), if_neg (by omega)]
  exact ⟨hw, if_pos hw⟩
/-- A chain that is parted by a 0. -/
theorem parted {D O : List Nat} {x t : Nat} (h1 : 1 ≤ t) (h2 : t < D.length) (h64 : D.length ≤ 64) (h3 : O.length + 1 = D.length) (hd : ∀ y ∈ D, rg y ≤ 6858982232485265408) (ho : ∀ y ∈ O, rg y ≤ 6858982232485265408) (hx : rg x ≤ 6867989431740006400) :
    wrongE D (O.set (t - 1) 0) x = 0 ∧ wrongE (D.take t) ((O.set (t - 1) 0).take (t - 1)) x = 0 ∧ wrongE (D.drop t) ((O.set (t - 1) 0).drop t) x = 0 ∧
    exactN D (O.set (t - 1) 0) x = exactN (D.take t) ((O.set (t - 1) 0).take (t - 1)) x + exactN (D.drop t) ((O.set (t - 1) 0).drop t) x := by
  have hs : ∀ y ∈ O.set (t - 1) 0, rg y ≤ 6858982232485265408 := fun y hy => by
    rcases List.mem_or_eq_of_mem_set hy with hy | rfl
    · exact ho y hy
    · decide
  obtain ⟨a1, a2⟩ := right_of (D := D) (O := O.set (t - 1) 0) (x := x) (by omega) h64 (by simpa using h3) hd hs hx
  obtain ⟨b1, b2⟩ := right_of (D := D.take t) (O := (O.set (t - 1) 0).take (t - 1)) (x := x) (by simp; omega) (by simp; omega) (by simp; omega) (fun y hy => hd y (List.mem_of_mem_take hy)) (fun y hy => hs y (List.mem_of_mem_take hy)) hx
  obtain ⟨c1, c2⟩ := right_of (D := D.drop t) (O := (O.set (t - 1) 0).drop t) (x := x) (by simp; omega) (by simp; omega) (by simp; omega) (fun y hy => hd y (List.mem_of_mem_drop hy)) (fun y hy => hs y (List.mem_of_mem_drop hy)) hx
  refine ⟨a1, b1, c1, ?_⟩
  rw [a2, b2, c2]
  have hk : t - 1 < (O.set (t - 1) 0).length := by simp; omega
  have e1 : O.set (t - 1) 0 = (O.set (t - 1) 0).take (t - 1) ++ 0 :: (O.set (t - 1) 0).drop t := by
    have := List.take_append_drop (t - 1) (O.set (t - 1) 0)
    rw [List.drop_eq_getElem_cons hk, List.getElem_set_self, show t - 1 + 1 = t by omega] at this
    exact this.symm
  have e2 : D = D.take t ++ D.drop t := (List.take_append_drop t D).symm
  have := St.cnt_app (val x) ((D.take t).map val) ((D.drop t).map val) (((O.set (t - 1) 0).take (t - 1)).map val) (((O.set (t - 1) 0).drop t).map val) (by simp; omega)
  rw [← this, ← List.map_append, ← e2]
  congr 1
  rw [show (0 : Int) = val 0 from val0.symm, ← List.map_cons, ← List.map_append, ← e1]

end Go.Proofs.YtfjiojdnbdfenaaDoor


/- A chain in the making: two lists of its own, in a block. -/
namespace Go.Proofs.YtfjiojdnbdfenaaDoor
open Go Go.RowKit Nv GFl Ieee
open Go.Proofs.YtfjiojdnbdfenaaDoorW.PrintWords (own_move own_ne own_lt print_append_cells)
set_option maxRecDepth 100000

structure LW (W w : World) (bq : Nat) (vD vO : Value) (D O : List Nat) : Prop where
  b : Below W.heap.size W w
  q : w.heap[bq]? = some (.cells #[vD, vO] 24 (0, 0))
  d : Ow w W.heap.size vD D
  o : Ow w W.heap.size vO O
  sep : ∀ b, vD.ownBlock = some b → vO.ownBlock ≠ some b
  ne : W.heap.size ≤ bq
theorem LW.drewN {W w : World} {bq : Nat} {vD vO : Value} {D O : List Nat} (h : LW W w bq vD vO D O) (n : Nat) : LW W (w.drewN n) bq vD vO D O := ⟨bl_drewN h.b n, h.q, h.d, h.o, h.sep, h.ne⟩
theorem LW.drew {W w : World} {bq : Nat} {vD vO : Value} {D O : List Nat} (h : LW W w bq vD vO D O) : LW W w.drew bq vD vO D O := ⟨bl_drew h.b, h.q, h.d, h.o, h.sep, h.ne⟩
theorem ow_below {w w' : World} {B : Nat} {v : Value} {l : List Nat} (h : Ow w B v l) (hb : Below w.heap.size w w') : Ow w' B v l := own_move h (fun k hk => hb.block k (own_lt h k hk))
theorem ow_base {w : World} {B B' : Nat} {v : Value} {l : List Nat} (h : Ow w B v l) (hb : B' ≤ B) : Ow w B' v l := by
  obtain ⟨h1, h2⟩ := h
  refine ⟨h1, ?_⟩
  rcases h2 with h2 | ⟨g, cap, cur, e, hg, r⟩
  · exact .inl h2
  · exact .inr ⟨g, cap, cur, e, by omega, r⟩
theorem LW.below {W w w' : World} {bq : Nat} {vD vO : Value} {D O : List Nat} (h : LW W w bq vD vO D O) (hb : Below w.heap.size w w') : LW W w' bq vD vO D O := ⟨bl_then h.b hb, kb_keep hb h.q, ow_below h.d hb, ow_below h.o hb, h.sep, h.ne⟩
theorem LW.appO {W w w1 : World} {bq : Nat} {vD vO v1 : Value} {D O : List Nat} {x : Nat} (h : LW W w bq vD vO D O) (hown : w1.ownsRow W.heap.size 25 1 v1 (O.length + 1) (O.map (Value.float .f64) ++ [.float .f64 x])) (hb : Below W.heap.size W w1) (hg : w.grownBy w1 vO.ownBlock)
    (hat : v1.ownBlock = vO.ownBlock ∨ ∃ b, v1.ownBlock = some b ∧ w.heap.size ≤ b) : w1.heap[bq]? = some (.cells #[vD, vO] 24 (0, 0)) ∧ LW W (w1.setCell ⟨bq, 1, none⟩ v1) bq vD v1 D (O ++ [x]) := by
  have q1 : w1.heap[bq]? = some (.cells #[vD, vO] 24 (0, 0)) := (hg.block bq (kb_lt h.q) (own_ne h.o h.q f_ne)).trans h.q
  have hown2 : Ow w1 W.heap.size v1 (O ++ [x]) := by unfold Ow; rw [List.length_append, List.map_append]; exact hown
  have hne := h.ne
  refine ⟨q1, hb.setCell (p := ⟨bq, 1, none⟩) hne v1, ?_, ?_, ?_, ?_, hne⟩
  · exact heap_set q1 1 v1
  · refine own_move h.d (fun k hk => ?_)
    have hlt := own_lt h.d k hk
    rw [Below.heap_setCell _ _ _ _ (show k ≠ bq from fun e => own_ne h.d h.q f_ne (by rw [hk, e]))]
    exact hg.block k hlt (fun e => h.sep k hk e.symm)
  · exact own_move hown2 (fun k hk => Below.heap_setCell _ _ _ _ (fun e => own_ne hown2 q1 f_ne (by rw [hk]; exact congrArg some e.symm)))
  · intro b hb1 hb2
    rcases hat with hat | ⟨b', hb', hle⟩
    · exact h.sep b hb1 (by rw [← hat]; exact hb2)
    · rw [hb'] at hb2
      injection hb2 with hb2
      have := own_lt h.d b hb1
      omega
end Go.Proofs.YtfjiojdnbdfenaaDoor


/- Slices of lists of floats; a chain's blocks. -/
namespace Go.Proofs.YtfjiojdnbdfenaaDoor
open Go Go.RowKit Nv GFl Ieee
open Go.Proofs.YtfjiojdnbdfenaaDoorW.PrintWords (own_move own_ne own_lt print_append_cells Kd print_cut_of)
set_option maxRecDepth 100000

theorem cut_top {P : Program} (t e : TypeId) (kh : IntKind) {i : TypeInfo} (ht : P.underlying t = some (.slice e)) (hi : P.info? e = some i) (A : Option Addr) (n c : Nat) (j : Int) (h0 : 0 ≤ j) (hm : j ≤ c) :
    ∀ W : World, (Instr.slice t (.slice A n c) none (some (.int kh j)) none).run P W = .ok (.slice A j.toNat c) W := by
  intro W
  have hel : P.elem t = e := by simp [Program.elem, ht]
  have hu : P.underlying t = some (.slice (P.elem t)) := by rw [hel]; exact ht
  have ha : (A.map fun x => x.add 0) = A := by cases A <;> simp [Addr.add]
  rw [run_slice_h W t A n c hu kh j h0 (by omega), hel]
  simp [sizeOf, typeInfo, hi, sliced, Result.andThen, ha]
theorem Fl.take_ {w : World} {A : Option Addr} {l : List Nat} (h : Fl w A l) (k : Nat) : Fl w A (l.take k) := by
  have hl : l.length ≤ 9223372036854775807 := h.2.1
  refine Fl.mk (by simp; omega) (fun h0 => ?_)
  obtain ⟨ad, e, _⟩ := h.at (i := 0) (by simp at h0; omega)
  refine ⟨ad, e, fun i hi => ?_⟩
  simp at hi
  obtain ⟨ad', e', hc⟩ := h.at (i := i) (by omega)
  rw [e] at e'
  injection e' with e'
  subst e'
  rw [hc]; simp
theorem Fl.top (A : Option Addr) (n c k : Nat) (hk : k ≤ c) : ∀ W : World, (Instr.slice 22 (.slice A n c) none (some (.int .i64 (k : Int))) none).run Tryd.prog W = .ok (.slice A k c) W := by
  obtain ⟨i, hi, hs⟩ := f_info1
  have := cut_top (P := Tryd.prog) 22 25 .i64 Tryd.underlying22 hi A n c (k : Int) (by omega) (by omega)
  simpa using this
theorem Fl.low (A : Option Addr) (n c k : Nat) (hk : k ≤ n) (hc : n ≤ c) : ∃ A' c', (∀ W : World, (Instr.slice 22 (.slice A n c) (some (.int .i64 (k : Int))) none none).run Tryd.prog W = .ok (.slice A' (n - k) c') W) ∧ (∀ (w : World) (l : List Nat), l.length = n → Fl w A l → Fl w A' (l.drop k)) ∧ n - k ≤ c' := by
  obtain ⟨i, hi, hs⟩ := f_info1
  obtain ⟨A', k1, k2⟩ := print_cut_of (P := Tryd.prog) (Value.float .f64) 0 22 25 .i64 Tryd.underlying22 hi hs A n c k hk
  refine ⟨A', c - k, k1, fun w l hl h => ?_, by omega⟩
  subst hl
  have := k2 w l hc (Kd.reads_of_C (d := (0 : Nat)) h)
  rw [← List.length_drop] at this
  exact Kd.C_of_reads this
theorem heap_other' {w : World} {g k : Nat} (h : k ≠ g) (i : Nat) (u : Value) : (w.setCell ⟨g, i, none⟩ u).heap[k]? = w.heap[k]? := by
  simp [World.setCell, Array.getElem?_modify, Ne.symm h]
theorem LW.setO {W w : World} {bq g cO n : Nat} {vD : Value} {D O : List Nat} {k y : Nat} (h : LW W w bq vD (.slice (some ⟨g, 0, none⟩) n cO) D O) (hl : O.length = n) : LW W (w.setCell ⟨g, k, none⟩ (.float .f64 y)) bq vD (.slice (some ⟨g, 0, none⟩) n cO) D (O.set k y) := by
  subst hl
  have ob : (Value.slice (some ⟨g, 0, none⟩) O.length cO).ownBlock = some g := rfl
  have hg : W.heap.size ≤ g := Go.Proofs.YtfjiojdnbdfenaaDoorW.PrintWords.own_base h.o g ob
  have hq : bq ≠ g := fun e => own_ne h.o h.q f_ne (by rw [ob, e])
  refine ⟨h.b.setCell (p := ⟨g, k, none⟩) hg _, (heap_other' hq k _).trans h.q, own_move h.d (fun k' hk' => heap_other' (fun e => h.sep k' hk' (by rw [ob, e])) k _), ?_, h.sep, h.ne⟩
  have := Go.Proofs.YtfjiojdnbdfenaaDoorW.PrintWords.own_put_of (enc := Value.float .f64) (xs := O) h.o (k : Int) y
  exact this
theorem LW.off {W w : World} {bq n : Nat} {vD vO : Value} {D O : List Nat} (h : LW W w bq vD vO D O) (hl : O.length = n) (h0 : 0 < n) : ∃ g c, vO = .slice (some ⟨g, 0, none⟩) n c ∧ n ≤ c := by
  obtain ⟨A, c, e, hc, f⟩ := ow_sl h.o
  have ho := h.o
  obtain ⟨h1, h2⟩ := ho
  rcases h2 with h2 | ⟨g, cap, cur, e2, _⟩
  · exact absurd h2.2 (by omega)
  · rw [e] at e2
    injection e2 with e3 e4 e5
    subst e3
    rw [hl] at e hc
    exact ⟨g, c, e, hc⟩
theorem LW.frz {W w : World} {bq n g c : Nat} {vD : Value} {D O : List Nat} (h : LW W w bq vD (.slice (some ⟨g, 0, none⟩) n c) D O) (hl : O.length = n) (k : Nat) (hk : k < n) : w.frozen? ⟨g, k, none⟩ = false ∧ ∃ y, w.cell? ⟨g, k, none⟩ = some (.float .f64 y) := by
  have ho := h.o
  unfold Ow at ho
  rw [hl] at ho
  obtain ⟨h1, h2⟩ := Go.Proofs.YtfjiojdnbdfenaaDoorW.PrintWords.own_at_of (enc := Value.float .f64) (d := 0) (xs := O) ho (k : Int) (by omega) (by omega)
  exact ⟨h2, _, h1⟩
/-- Three chains told, each in a block of its own. -/
structure PT (W w : World) (b0 b1 b2 : Nat) (c0 c1 c2 : Array Value) : Prop where
  b : Below W.heap.size W w
  k0 : w.heap[b0]? = some (.cells c0 24 (0, 0))
  k1 : w.heap[b1]? = some (.cells c1 24 (0, 0))
  k2 : w.heap[b2]? = some (.cells c2 24 (0, 0))
theorem PT.then {W w w' : World} {b0 b1 b2 : Nat} {c0 c1 c2 : Array Value} (h : PT W w b0 b1 b2 c0 c1 c2) (hb : Below w.heap.size w w') : PT W w' b0 b1 b2 c0 c1 c2 := ⟨bl_then h.b hb, kb_keep hb h.k0, kb_keep hb h.k1, kb_keep hb h.k2⟩
theorem new_chain (w : World) (s0 s1 : Value) : Below w.heap.size w ((((w.alloc (.cells #[.slice none 0 0, .slice none 0 0] 24)).drew).setCell ⟨w.heap.size, 0, none⟩ s0).setCell ⟨w.heap.size, 1, none⟩ s1) ∧ ((((w.alloc (.cells #[.slice none 0 0, .slice none 0 0] 24)).drew).setCell ⟨w.heap.size, 0, none⟩ s0).setCell ⟨w.heap.size, 1, none⟩ s1).heap[w.heap.size]? = some (.cells #[s0, s1] 24 (0, 0)) := by
  have k := kb_new (w := w) (o := .cells #[.slice none 0 0, .slice none 0 0] 24) (bl_drew (Below.refl _ _))
  exact ⟨bl_set (bl_set (bl_drew (bl_alloc (Below.refl _ _) _)) _ (by simp)) _ (by simp), heap_set (heap_set k 0 s0) 1 s1⟩
end Go.Proofs.YtfjiojdnbdfenaaDoor


/- girderkit: lists of floats lent, kept, written over; held against one another. -/
namespace Go.Proofs.YtfjiojdnbdfenaaDoor
open Go Go.RowKit Nv GFl Ieee
open Go.Proofs.YtfjiojdnbdfenaaDoorW.PrintWords (own_move own_ne own_lt Kd)
set_option maxRecDepth 100000
set_option linter.unusedSimpArgs false
attribute [local go_sem] run_f64bits run_f64frombits run_neg_f64 run_store_float

theorem two_blk' (w : World) (o o' : Obj) : ((w.alloc o).alloc o').heap[w.heap.size]? = some o ∧ ((w.alloc o).alloc o').heap[w.heap.size + 1]? = some o' := by
  refine ⟨kb_alloc (kb_new (Below.refl _ _)), ?_⟩
  have := kb_new (w := w.alloc o) (o := o') (Below.refl _ _)
  simpa using this
theorem sameF_self (x : Nat) : sameF x x = true := (sameF_eq rfl).symm
theorem same_reals_c (A B : Option Addr) (cA cB : Nat) (l : List Nat) (W : World) (h1 : Fl W A l) (h2 : Fl W B l) (wl : ∀ x ∈ l, W64 x) :
    Calls Tryd.prog 44 #[.slice A l.length cA, .slice B l.length cB] W fun e w' => e = .returned (.bool true) ∧ ∃ m, w' = W.drewN m := by
  have H1 := Lib.hid h1
  have H2 := Lib.hid h2
  have WL := Lib.hid wl
  have hm := h1.2.1
  clear h1 h2 wl
  have k0 : ((l.length : Int) != (l.length : Int)) = false := by simp
  go_enter Tryd.func44, Tryd.ntmps44
  go_wp2
  go_loopw [5] (fun v5 wr => ∃ i : Nat, v5 = .int .i64 i ∧ i ≤ l.length ∧ Hid (∃ m, wr = W.drewN m)) (fun v _ => l.length - (intOf v).toNat)
  case atStart => exact ⟨0, rfl, Nat.zero_le _, Lib.hid ⟨0, rfl⟩⟩
  case round =>
    obtain ⟨i, rfl, hi, hq⟩ := hrel
    by_cases hlt : i < l.length
    · have l1 : decide (i < l.length) = true := decide_eq_true hlt
      obtain ⟨ad, hA, d0⟩ := H1.out.at hlt
      obtain ⟨bd, hB, d1⟩ := H2.out.at hlt
      subst hA
      subst hB
      have d0' : wr.cell? (ad.add i) = some (.float .f64 l[i]) := by obtain ⟨m, e⟩ := hq.out; rw [e]; exact d0
      have d1' : wr.cell? (bd.add i) = some (.float .f64 l[i]) := by obtain ⟨m, e⟩ := hq.out; rw [e]; exact d1
      have wy := WL.out _ (List.getElem_mem hlt)
      obtain ⟨y, hy⟩ : ∃ y, l[i] = y := ⟨_, rfl⟩
      rw [hy] at d0' d1' wy
      have SF : Hid (∀ w, Calls Tryd.prog 28 #[.float .f64 y, .float .f64 y] w fun e w' => e = .returned (.bool true) ∧ w' = w) := Lib.hid (fun w => by have := sameFloat_c y y wy wy w; rw [sameF_self] at this; exact this)
      have j0 : (0 : Int) ≤ (i : Int) := by omega
      have j1 : (i : Int) < (l.length : Int) := by omega
      have j2 : IntKind.i64.wrap ((i : Int) + 1) = (i : Int) + 1 := by rw [IntKind.wrap_i64]; omega
      have HI : Hid (i + 1 ≤ l.length) := Lib.hid (by omega)
      clear d0 d1 hy hlt wy
      go_wp2
      go_quiet ((go_at_call 28; refine Calls.quiet_of_same (SF.out _)))
      go_wp2
      go_roundw
      case rel => exact ⟨i + 1, by go_num, HI.out, Lib.hid (by obtain ⟨m, e⟩ := hq.out; exact ⟨m + nq, by rw [e, World.drewN_drewN]⟩)⟩
      case measure => have := HI.out; simp [intOf]; omega
    · have l1 : decide (i < l.length) = false := decide_eq_false hlt
      clear hlt
      go_wp2
      go_ret
      exact ⟨rfl, hq.out⟩
theorem same_chain_c (A B A' B' : Option Addr) (cA cB cA' cB' : Nat) (l m : List Nat) (W : World) (h1 : Fl W A l) (h2 : Fl W A' l) (h3 : Fl W B m) (h4 : Fl W B' m) (wl : ∀ x ∈ l, W64 x) (wm : ∀ x ∈ m, W64 x) :
    Calls Tryd.prog 25 #[.agg #[.slice A l.length cA, .slice B m.length cB], .agg #[.slice A' l.length cA', .slice B' m.length cB']] W fun e w' => e = .returned (.bool true) ∧ Below W.heap.size W w' := by
  have s1 : ∀ w, Below W.heap.size W w → Calls Tryd.prog 44 #[.slice A l.length cA, .slice A' l.length cA'] w fun e w' => e = .returned (.bool true) ∧ ∃ m, w' = w.drewN m := fun w h => same_reals_c A A' cA cA' l w (h1.below h) (h2.below h) wl
  have s2 : ∀ w, Below W.heap.size W w → Calls Tryd.prog 44 #[.slice B m.length cB, .slice B' m.length cB'] w fun e w' => e = .returned (.bool true) ∧ ∃ m, w' = w.drewN m := fun w h => same_reals_c B B' cB cB' m w (h3.below h) (h4.below h) wm
  have S1 := Lib.hid s1
  have S2 := Lib.hid s2
  clear s1 s2 h1 h2 h3 h4 wl wm
  go_enter Tryd.func25, Tryd.ntmps25
  have B0 : Hid (Below W.heap.size W ((W.alloc (.cells #[.slice A l.length cA, .slice B m.length cB] 24)).alloc (.cells #[.slice A' l.length cA', .slice B' m.length cB'] 24))) := Lib.hid (by repeat' (first | (with_reducible exact Below.refl _ _) | (with_reducible refine bl_alloc ?_ _) | (with_reducible refine bl_drewN ?_ _) | (with_reducible refine bl_drew ?_) | (with_reducible refine bl_set ?_ _ (by simp))))
  obtain ⟨k0, k1⟩ := two_blk' W (.cells #[.slice A l.length cA, .slice B m.length cB] 24) (.cells #[.slice A' l.length cA', .slice B' m.length cB'] 24)
  have c0 := kb_cell k0 (i := 0) rfl
  have c1 := kb_cell k0 (i := 1) rfl
  have c2 := kb_cell k1 (i := 0) rfl
  have c3 := kb_cell k1 (i := 1) rfl
  go_wp2_with (first
    | (go_at_call 44; (with_reducible (first | refine (S1.out _ B0.out).mono ?_ | refine (S2.out _ B0.out).mono ?_)); rintro e w7 ⟨rfl, m, rfl⟩; have B0 := Lib.hid (bl_drewN B0.out m); have c0 := kb_cell k0 (i := 0) rfl))
  go_ret
  exact ⟨rfl, by repeat' (first | (with_reducible exact Below.refl _ _) | (with_reducible refine bl_alloc ?_ _) | (with_reducible refine bl_drewN ?_ _) | (with_reducible refine bl_drew ?_) | (with_reducible refine bl_set ?_ _ (by simp)))⟩
end Go.Proofs.YtfjiojdnbdfenaaDoor


/- girderkit: lists of floats lent with marks behind their ends, kept, written over. -/
namespace Go.Proofs.YtfjiojdnbdfenaaDoor
open Go Go.RowKit Nv GFl Ieee
open Go.Proofs.YtfjiojdnbdfenaaDoorW.PrintWords (own_move own_ne own_lt Kd)
set_option maxRecDepth 100000
set_option linter.unusedSimpArgs false
attribute [local go_sem] run_f64bits run_f64frombits run_neg_f64 run_store_float

theorem add_blk (b k : Nat) : (⟨b, 0, none⟩ : Addr).add k = ⟨b, k, none⟩ := by
  unfold Addr.add; split <;> simp_all
def mkI (k i : Int) : Int := 1000003 * (k + 7) + i
theorem mark_c (k i : Int) (h1 : 0 ≤ k) (h2 : k ≤ 9) (h3 : 0 ≤ i) (h4 : i ≤ 1000000000000000) (w : World) : Calls Tryd.prog 42 #[.int .i64 k, .int .i64 i] w fun e w' => e = .returned (.int .i64 (mkI k i)) ∧ w' = w := by
  have e1 : IntKind.i64.wrap (k + 7) = k + 7 := by rw [IntKind.wrap_i64]; omega
  have e2 : IntKind.i64.wrap (1000003 * (k + 7)) = 1000003 * (k + 7) := by rw [IntKind.wrap_i64]; omega
  have e3 : IntKind.i64.wrap (1000003 * (k + 7) + i) = mkI k i := by unfold mkI; rw [IntKind.wrap_i64]; omega
  go_enter Tryd.func42, Tryd.ntmps42
  go_wp2
  go_ret
  exact ⟨rfl, rfl⟩
/-- The marks as floats. -/
def mkF (i : Nat) : Nat := floatOfInt .f64 (mkI 1 i)
def mks (n : Nat) : List Nat := (List.range n).map mkF
theorem mks_succ (n : Nat) : mks (n + 1) = mks n ++ [mkF n] := by unfold mks; rw [List.range_succ, List.map_append]; rfl
theorem mks_len (n : Nat) : (mks n).length = n := by unfold mks; simp
theorem mks_get (n i : Nat) (h : i < (mks n).length) : (mks n)[i] = mkF i := by simp [mks]
theorem mkF_ok (i : Nat) (h : i ≤ 1000) : W64 (mkF i) ∧ isn (mkF i) = false := by
  obtain ⟨x, hx, hw, _, _, h4, _⟩ := int_float (n := 8000024 + i) (by omega) (by omega)
  have e : mkF i = x := by
    unfold mkF mkI
    rw [← hx]; congr 1
  rw [e]
  exact ⟨hw, by rw [isn_eq]; simp; omega⟩
theorem fl_cells {w : World} {ad : Addr} {l : List Nat} (h : Fl w (some ad) l) (m : Nat) (u : Value) (hu : (l.map (Value.float .f64))[m]? = some u) : w.cell? (ad.add m) = some u := by
  rw [List.getElem?_map] at hu
  obtain ⟨y, hy, rfl⟩ := Option.map_eq_some_iff.1 hu
  have hm := (List.getElem?_eq_some_iff.1 hy).1
  obtain ⟨ad', e, hc⟩ := h.at hm
  injection e with e
  subst e
  rw [hc]
  have := (List.getElem?_eq_some_iff.1 hy).2
  rw [this]
/-- A list lent: its block holds the list and twelve marks behind it. -/
def Lent (w : World) (B g : Nat) (l : List Nat) : Prop := Ow w B (.slice (some ⟨g, 0, none⟩) (l.length + 12) (l.length + 12)) (l ++ mks 12)
theorem Lent.ow {w : World} {B g : Nat} {l : List Nat} (h : Lent w B g l) : Fl w (some ⟨g, 0, none⟩) (l ++ mks 12) := by
  obtain ⟨A', c', e, _, f⟩ := ow_sl h
  have : some (⟨g, 0, none⟩ : Addr) = A' := by injection e
  rw [this]; exact f
theorem Lent.fl {w : World} {B g : Nat} {l : List Nat} (h : Lent w B g l) : Fl w (some ⟨g, 0, none⟩) l := by
  have := h.ow.take_ l.length
  simpa using this
theorem ow_len {w : World} {B n c : Nat} {A : Option Addr} {l : List Nat} (h : w.ownsRow B 25 1 (.slice A n c) n (l.map (Value.float .f64))) (hl : l.length = n) : Ow w B (.slice A n c) l := by unfold Ow; rw [hl]; exact h
set_option maxHeartbeats 4000000 in
theorem lent_reals_c {W : World} (A : Option Addr) (c : Nat) (l : List Nat) (hC : Fl W A l) (hA : A = none → c = 0 ∧ l = []) (hB : l.length * 8 ≤ 140737488351232) :
    Calls Tryd.prog 20 #[.slice A l.length c] W fun e w' => ∃ g, e = .returned (.slice (some ⟨g, 0, none⟩) l.length (l.length + 12)) ∧ W.heap.size ≤ g ∧ Lent w' W.heap.size g l ∧ Below W.heap.size W w' := by
  obtain ⟨i0, hi, hz0, hz1, hz2⟩ := info_parts f_info
  have HC := Lib.hid hC
  have HA := Lib.hid hA
  have hcut := cut_top (P := Tryd.prog) 22 25 .i64 Tryd.underlying22 hi (some ⟨W.heap.size, 0, none⟩) (l.length + 12) (l.length + 12) (l.length : Int) (by omega) (by omega)
  rw [Int.toNat_natCast] at hcut
  have hw : IntKind.i64.wrap ((l.length : Int) + 12) = ((l.length + 12 : Nat) : Int) := by rw [IntKind.wrap_i64]; omega
  clear hC hA
  go_enter Tryd.func20, Tryd.ntmps20
  go_wp2_with (first
    | (at_make; go_loud (refine wpList_make_own _ rfl _ _ 22 rfl W.heap.size 25 i0 _ 1 Tryd.underlying22 hi hz0 hz1 .i64 .i64 _ (l.length + 12) rfl rfl (by first | exact hw | omega) (by rw [hz2]; omega) (by unfold maxLen; omega) (Nat.le_refl _) ?_); intro w0 hown0 hgrow0
       have B0 := Lib.hid ((Below.refl W.heap.size W).grown hgrow0 (Nat.le_refl _) (fun k h => by cases h)))
    | (at_builtin; refine wpList_append_fits_any _ rfl _ _ 22 rfl W.heap.size 25 i0 1 Tryd.underlying22 hi hz1 W.heap.size 0 (l.length + 12) [] rfl hown0 A l.length c (l.map (Value.float .f64)) rfl (by simp) (fun h => ⟨by rw [(HA.out h).2]; rfl, (HA.out h).1⟩) (fun ad e m u hu => fl_cells (w := w0) (by subst e; exact HC.out.below B0.out) m u hu) (fun u hu => by obtain ⟨y, _, rfl⟩ := List.mem_map.1 hu; rfl) (by omega) ?_; intro w1 hown1 hgrow1
       replace B0 := Lib.hid (B0.out.grown hgrow1 (by have := B0.out.size; omega) (fun k h => by cases h; exact Nat.le_refl _))
       rw [Nat.zero_add, List.nil_append] at hown1
       rw [Nat.zero_add]
       clear hown0 hgrow0 hgrow1))
  have B1 := Lib.hid B0.out
  clear B0
  go_loopw [3, 4] (fun s v wr => ∃ k : Nat, k ≤ 12 ∧ v = .int .i64 k ∧ s = .slice (some ⟨W.heap.size, 0, none⟩) (l.length + k) (l.length + 12) ∧ wr.ownsRow W.heap.size 25 1 (.slice (some ⟨W.heap.size, 0, none⟩) (l.length + k) (l.length + 12)) (l.length + k) ((l ++ mks k).map (Value.float .f64)) ∧ Below W.heap.size W wr) (fun _ v _ => 12 - (intOf v).toNat)
  case atStart => exact ⟨0, by omega, rfl, rfl, by simpa [mks] using hown1, B1.out⟩
  case round =>
    obtain ⟨k, hk, rfl, rfl, hown, hb⟩ := hrel
    have HB := Lib.hid hb
    have hgs : W.heap.size < wr.heap.size := (hown.lt W.heap.size rfl).2
    clear hb hown1 B1
    have mj : ∀ w, k ≤ 12 → Calls Tryd.prog 42 #[.int .i64 1, .int .i64 k] w fun e w' => e = .returned (.int .i64 (mkI 1 k)) ∧ w' = w := fun w h => mark_c 1 k (by omega) (by omega) (by omega) (by omega) w
    go_wp2_with (first
      | (go_at_call 42; refine (mj _ hk).mono ?_; rintro e w2 ⟨rfl, rfl⟩)
      | (at_builtin; refine wpList_append_fits _ rfl _ _ 22 rfl W.heap.size 25 i0 1 Tryd.underlying22 hi hz1 W.heap.size (l.length + k) (l.length + 12) ((l ++ mks k).map (Value.float .f64)) rfl (hown.alloc _) ⟨w2.heap.size, 0, none⟩ 1 1 [.float .f64 (mkF k)] rfl rfl (fun m u hu => by rw [add_blk]; exact kb_cell (c := #[.float .f64 (mkF k)]) Array.getElem?_push_size (by simpa using hu)) (by simp [Value.oneCell']) (by omega) ?_; intro w3 hown3 hgrow3
         replace HB := Lib.hid ((bl_alloc HB.out _).grown hgrow3 (by have := HB.out.size; simp; omega) (fun b h => by cases h; exact Nat.le_refl _))
         clear hown hgrow3))
    · go_roundw
      case rel => exact ⟨k + 1, by omega, by go_num, by rw [Nat.add_assoc], by rw [mks_succ, ← List.append_assoc, List.map_append, ← Nat.add_assoc]; simpa using hown3, HB.out⟩
      case measure => simp [intOf]; omega
    · obtain rfl : k = 12 := by omega
      go_ret
      exact ⟨W.heap.size, rfl, Nat.le_refl _, ow_len hown (by simp [mks_len]), HB.out⟩
end Go.Proofs.YtfjiojdnbdfenaaDoor


/- girderkit.KeptReals on a lent list; OverReals. -/
namespace Go.Proofs.YtfjiojdnbdfenaaDoor
open Go Go.RowKit Nv GFl Ieee
set_option maxRecDepth 100000
set_option linter.unusedSimpArgs false
attribute [local go_sem] run_f64bits run_f64frombits run_neg_f64 run_store_float

set_option maxHeartbeats 4000000 in
theorem kept_reals_c (g : Nat) (A : Option Addr) (c cA : Nat) (l : List Nat) (W : World) (hg : Fl W (some ⟨g, 0, none⟩) (l ++ mks 12)) (hA : Fl W A l) (hc : c = l.length + 12) (wl : ∀ x ∈ l, W64 x) (hB : l.length * 8 ≤ 140737488351232) :
    Calls Tryd.prog 22 #[.slice (some ⟨g, 0, none⟩) l.length c, .slice A l.length cA] W fun e w' => e = .returned (.bool true) ∧ ∃ m, w' = W.drewN m := by
  subst hc
  have HG := Lib.hid hg
  have HA := Lib.hid hA
  have WL := Lib.hid wl
  have k0 : ((l.length : Int) != (l.length : Int)) = false := by simp
  have hw : IntKind.i64.wrap ((l.length : Int) + 12) = ((l.length + 12 : Nat) : Int) := by rw [IntKind.wrap_i64]; omega
  obtain ⟨i0, hi, hs⟩ := f_info1
  have hcut := cut_top (P := Tryd.prog) 22 25 .i64 Tryd.underlying22 hi (some ⟨g, 0, none⟩) l.length (l.length + 12) ((l.length + 12 : Nat) : Int) (by omega) (by omega)
  rw [Int.toNat_natCast] at hcut
  clear hg hA wl hi hs
  go_enter Tryd.func22, Tryd.ntmps22
  go_wp2
  go_loopw [6] (fun v6 wr => ∃ i : Nat, v6 = .int .i64 i ∧ i ≤ l.length + 12 ∧ Hid (∃ m, wr = W.drewN m)) (fun v _ => l.length + 12 - (intOf v).toNat)
  case atStart => exact ⟨0, rfl, Nat.zero_le _, Lib.hid ⟨0, rfl⟩⟩
  case round =>
    obtain ⟨i, rfl, hi, hq⟩ := hrel
    clear hcut
    by_cases hlt : i < l.length + 12
    · have l1 : decide (i < l.length + 12) = true := decide_eq_true hlt
      have l1' : decide ((i : Int) < (l.length : Int) + 12) = true := decide_eq_true (by omega)
      have hlt2 : i < (l ++ mks 12).length := by rw [List.length_append, mks_len]; exact hlt
      obtain ⟨ad, hA, d0⟩ := HG.out.at hlt2
      injection hA with hA
      subst hA
      rw [add_blk] at d0
      have j0 : (0 : Int) ≤ (i : Int) := by omega
      have j1 : (i : Int) < ((l.length + 12 : Nat) : Int) := by omega
      have j1' : (i : Int) < (l.length : Int) + 12 := by omega
      have j2 : IntKind.i64.wrap ((i : Int) + 1) = (i : Int) + 1 := by rw [IntKind.wrap_i64]; omega
      have HI : Hid (i + 1 ≤ l.length + 12) := Lib.hid (by omega)
      by_cases hin : i < l.length
      · have l2 : decide (i < l.length) = true := decide_eq_true hin
        have l3 : decide (l.length ≤ i) = false := decide_eq_false (by omega)
        obtain ⟨bd, hB2, d1⟩ := HA.out.at hin
        subst hB2
        have wy := WL.out _ (List.getElem_mem hin)
        rw [List.getElem_append_left hin] at d0
        have d0' : wr.cell? ⟨g, i, none⟩ = some (.float .f64 l[i]) := by obtain ⟨m, e⟩ := hq.out; rw [e]; exact d0
        have d1' : wr.cell? (bd.add i) = some (.float .f64 l[i]) := by obtain ⟨m, e⟩ := hq.out; rw [e]; exact d1
        have j3 : (i : Int) < (l.length : Int) := by omega
        obtain ⟨y, hy⟩ : ∃ y, l[i] = y := ⟨_, rfl⟩
        rw [hy] at d0' d1' wy
        have SF : Hid (∀ w, Calls Tryd.prog 28 #[.float .f64 y, .float .f64 y] w fun e w' => e = .returned (.bool true) ∧ w' = w) := Lib.hid (fun w => by have := sameFloat_c y y wy wy w; rw [sameF_self] at this; exact this)
        clear d0 d1 hy hlt hlt2 wy hin
        go_wp2
        go_quiet ((go_at_call 28; refine Calls.quiet_of_same (SF.out _)))
        go_wp2
        go_roundw
        case rel => exact ⟨i + 1, by go_num, HI.out, Lib.hid (by obtain ⟨m, e⟩ := hq.out; exact ⟨m + nq, by rw [e, World.drewN_drewN]⟩)⟩
        case measure => have := HI.out; simp [intOf]; omega
      · have l2 : decide (i < l.length) = false := decide_eq_false hin
        have l3 : decide (l.length ≤ i) = true := decide_eq_true (by omega)
        have e0 : (l ++ mks 12)[i] = floatOfInt .f64 (mkI 1 ((i - l.length : Nat) : Int)) := by rw [List.getElem_append_right (by omega), mks_get]; rfl
        rw [e0] at d0
        obtain ⟨wm, nm⟩ := mkF_ok (i - l.length) (by omega)
        have te := o_eq_self wm
        rw [nm] at te
        have te' : (FloatKind.f64.format.order (floatOfInt .f64 (mkI 1 ((i - l.length : Nat) : Int))) (floatOfInt .f64 (mkI 1 ((i - l.length : Nat) : Int))) == some .eq) = true := te
        have d0' : wr.cell? ⟨g, i, none⟩ = some (.float .f64 (floatOfInt .f64 (mkI 1 ((i - l.length : Nat) : Int)))) := by obtain ⟨m, e⟩ := hq.out; rw [e]; exact d0
        have MK : Hid (∀ w, Calls Tryd.prog 42 #[.int .i64 1, .int .i64 ((i - l.length : Nat) : Int)] w fun e w' => e = .returned (.int .i64 (mkI 1 ((i - l.length : Nat) : Int))) ∧ w' = w) := Lib.hid (fun w => mark_c 1 _ (by omega) (by omega) (by omega) (by omega) w)
        have j4 : IntKind.i64.wrap ((i : Int) - (l.length : Int)) = ((i - l.length : Nat) : Int) := by rw [IntKind.wrap_i64]; omega
        clear d0 e0 wm nm te hlt hlt2 hin
        go_wp2
        go_quiet ((go_at_call 42; refine Calls.quiet_of_same (MK.out _)))
        go_wp2
        go_roundw
        case rel => exact ⟨i + 1, by go_num, HI.out, Lib.hid (by obtain ⟨m, e⟩ := hq.out; exact ⟨m + nq, by rw [e, World.drewN_drewN]⟩)⟩
        case measure => have := HI.out; simp [intOf]; omega
    · have l1 : decide (i < l.length + 12) = false := decide_eq_false hlt
      have l1' : decide ((i : Int) < (l.length : Int) + 12) = false := decide_eq_false (by omega)
      clear hlt
      go_wp2
      go_ret
      exact ⟨rfl, hq.out⟩
/-- Nothing but one block is changed. -/
structure Ov (w w' : World) (g : Nat) : Prop where
  b : Below 0 w w'
  o : ∀ k, k ≠ g → w'.heap[k]? = w.heap[k]?
theorem Ov.below {W w w' : World} {g : Nat} (h : Ov w w' g) (hb : Below W.heap.size W w) (hg : W.heap.size ≤ g) : Below W.heap.size W w' :=
  ⟨h.b.os.trans hb.os, h.b.tape.trans hb.tape, h.b.output.trans hb.output, Nat.le_trans hb.size h.b.size, fun k hk => (h.o k (by omega)).trans (hb.block k hk)⟩
set_option maxHeartbeats 4000000 in
theorem over_reals_c (g : Nat) (n c : Nat) (cs : Array Value) (W : World) (hc : c = n + 12) (hg : W.heap[g]? = some (.cells cs 25 (0, 0))) (hs : n + 12 ≤ cs.size) (hB : n * 8 ≤ 140737488351232) :
    Calls Tryd.prog 23 #[.slice (some ⟨g, 0, none⟩) n c] W fun e w' => (∃ v, e = .returned v) ∧ Ov W w' g := by
  subst hc
  have HG := Lib.hid hg
  have hw : IntKind.i64.wrap ((n : Int) + 12) = ((n + 12 : Nat) : Int) := by rw [IntKind.wrap_i64]; omega
  obtain ⟨i0, hi, hs0⟩ := f_info1
  have hcut := cut_top (P := Tryd.prog) 22 25 .i64 Tryd.underlying22 hi (some ⟨g, 0, none⟩) n (n + 12) ((n + 12 : Nat) : Int) (by omega) (by omega)
  rw [Int.toNat_natCast] at hcut
  clear hg hi hs0
  go_enter Tryd.func23, Tryd.ntmps23
  go_wp2
  go_loopw [3] (fun v3 wr => ∃ i : Nat, v3 = .int .i64 i ∧ i ≤ n + 12 ∧ Hid (∃ cs, Ov W wr g ∧ wr.heap[g]? = some (.cells cs 25 (0, 0)) ∧ n + 12 ≤ cs.size)) (fun v _ => n + 12 - (intOf v).toNat)
  case atStart => exact ⟨0, rfl, Nat.zero_le _, Lib.hid ⟨cs, ⟨Below.refl _ _, fun _ _ => rfl⟩, HG.out, hs⟩⟩
  case round =>
    obtain ⟨i, rfl, hi, hq⟩ := hrel
    clear hcut
    by_cases hlt : i < n + 12
    · have l1 : decide (i < n + 12) = true := decide_eq_true hlt
      have l1' : decide ((i : Int) < (n : Int) + 12) = true := decide_eq_true (by omega)
      have j0 : (0 : Int) ≤ (i : Int) := by omega
      have j1 : (i : Int) < ((n + 12 : Nat) : Int) := by omega
      have j1' : (i : Int) < (n : Int) + 12 := by omega
      have j2 : IntKind.i64.wrap ((i : Int) + 1) = (i : Int) + 1 := by rw [IntKind.wrap_i64]; omega
      have HI : Hid (i + 1 ≤ n + 12) := Lib.hid (by omega)
      obtain ⟨cs', ho, hb, hz⟩ := hq.out
      have d0 := kb_cell (i := i) hb (Array.getElem?_eq_getElem (show i < cs'.size by omega))
      have d1 := kb_frozen hb i
      obtain ⟨u, hu⟩ : ∃ u, cs'[i]'(by omega) = u := ⟨_, rfl⟩
      rw [hu] at d0
      have MK : Hid (∀ w, Calls Tryd.prog 42 #[.int .i64 2, .int .i64 (i : Int)] w fun e w' => e = .returned (.int .i64 (mkI 2 i)) ∧ w' = w) := Lib.hid (fun w => mark_c 2 _ (by omega) (by omega) (by omega) (by omega) w)
      have NX : Hid (∀ v, ∃ cs, Ov W (wr.setCell ⟨g, i, none⟩ v) g ∧ (wr.setCell ⟨g, i, none⟩ v).heap[g]? = some (.cells cs 25 (0, 0)) ∧ n + 12 ≤ cs.size) := Lib.hid (fun v => ⟨_, ⟨ho.b.setCell (p := ⟨g, i, none⟩) (Nat.zero_le _) v, fun k hk => (heap_other' hk i v).trans (ho.o k hk)⟩, heap_set hb i v, by simpa using hz⟩)
      clear ho hb hz hq hu hlt
      go_wp2_with (first
        | (go_at_call 42; (with_reducible refine (MK.out _).mono ?_); rintro e w2 ⟨rfl, rfl⟩))
      go_roundw
      case rel => exact ⟨i + 1, by go_num, HI.out, Lib.hid (NX.out _)⟩
      case measure => have := HI.out; simp [intOf]; omega
    · have l1 : decide (i < n + 12) = false := decide_eq_false hlt
      have l1' : decide ((i : Int) < (n : Int) + 12) = false := decide_eq_false (by omega)
      clear hlt
      go_wp2
      go_end0
      exact ⟨⟨_, rfl⟩, hq.out.elim fun _ h => h.1⟩
end Go.Proofs.YtfjiojdnbdfenaaDoor


/- girderref17: powers of two. -/
namespace Go.Proofs.YtfjiojdnbdfenaaDoor
open Go Go.RowKit Nv GFl Ieee
set_option maxRecDepth 100000
set_option linter.unusedSimpArgs false

/-- 2 to the power e - 1074. -/
def tw (e : Nat) : Nat := if e < 52 then 2 ^ e else (e - 51) * B52
theorem tw_mg (e : Nat) : mg B52 (tw e) = p2 e := by
  unfold tw
  by_cases h : e < 52
  · rw [if_pos h, mg_small]
    · exact (p2_def e).symm
    · exact Nat.lt_of_lt_of_eq (Nat.pow_lt_pow_right (by decide) h) (by decide)
  · rw [if_neg h, mgP (by omega), ← p2_add]; congr 1; omega
theorem tw_le {e : Nat} (h : e ≤ 2097) : tw e ≤ 9214364837600034816 := by
  unfold tw
  by_cases h1 : e < 52
  · rw [if_pos h1]
    have : 2 ^ e < 2 ^ 52 := Nat.pow_lt_pow_right (by decide) h1
    have e2 : (2 : Nat) ^ 52 = 4503599627370496 := by decide
    omega
  · rw [if_neg h1]
    show (e - 51) * 4503599627370496 ≤ _
    omega
theorem tw_ok {e : Nat} (h : e ≤ 2097) : W64 (tw e) ∧ neg (tw e) = false ∧ rg (tw e) = tw e := by
  have := tw_le h
  have h1 : wd false (tw e) = tw e := by rw [wd_eq]; rfl
  have h2 : tw e < 9223372036854775808 := by omega
  refine ⟨?_, ?_, ?_⟩
  · rw [← h1]; exact wd_w h2
  · have := wd_neg (s := false) h2; rwa [h1] at this
  · have := wd_rg (s := false) h2; rwa [h1] at this
theorem tw_up {e : Nat} (h : e + 1 ≤ 2097) : double.mul (tw e) 4611686018427387904 = some (tw (e + 1)) := by
  obtain ⟨a1, a2, a3⟩ := tw_ok (e := e) (by omega)
  have l1 := tw_le (e := e) (by omega)
  have l2 := tw_le h
  have := dbl64 (q := tw (e + 1)) a1 (by rw [a3]; omega) (by omega) (by rw [a3, tw_mg, tw_mg, p2_suc, Nat.mul_comm])
  rw [this, a2, wd_eq]; rfl
theorem tw_down {e : Nat} (h : e + 1 ≤ 2097) : double.div (tw (e + 1)) 4611686018427387904 = some (tw e) := by
  obtain ⟨a1, a2, a3⟩ := tw_ok h
  have l1 := tw_le (e := e) (by omega)
  have l2 := tw_le h
  have := half64 (q := tw e) a1 (by rw [a3]; omega) (by omega) (by rw [a3, tw_mg, tw_mg, p2_suc, Nat.mul_comm])
  rw [this, a2, wd_eq]; rfl
theorem tw_one : tw 1074 = 4607182418800017408 := by unfold tw; rw [if_neg (by decide)]; decide +kernel
set_option maxHeartbeats 4000000 in
theorem pow2_c (n : Int) (h1 : -1074 ≤ n) (h2 : n ≤ 1023) (w : World) : Calls Tryd.prog 38 #[.int .i64 n] w fun e w' => e = .returned (.float .f64 (tw (1074 + n).toNat)) ∧ w' = w := by
  have T1 := Lib.hid tw_one
  go_enter Tryd.func38, Tryd.ntmps38
  go_wp2
  go_loopw [3, 4] (fun v3 v4 wr => ∃ i : Nat, v3 = .float .f64 (tw (1074 + i)) ∧ v4 = .int .i64 i ∧ (i : Int) ≤ max n 0 ∧ Hid (wr = w)) (fun _ v _ => 2000 - (intOf v).toNat)
  case atStart => exact ⟨0, by rw [Nat.add_zero, T1.out], rfl, by omega, Lib.hid rfl⟩
  case round =>
    obtain ⟨i, rfl, rfl, hi, hq⟩ := hrel
    by_cases hlt : (i : Int) < n
    · have l1 : decide ((i : Int) < n) = true := decide_eq_true hlt
      have u := tw_up (e := 1074 + i) (by omega)
      have s1 : ∀ t w, (binOp .mul t (.float .f64 (tw (1074 + i))) (.float .f64 4611686018427387904)).run Tryd.prog w = .ok (.float .f64 (tw (1074 + i + 1))) w := fun t w => run_float_arith w .mul t .f64 _ _ _ u
      have j1 : IntKind.i64.wrap ((i : Int) + 1) = (i : Int) + 1 := by rw [IntKind.wrap_i64]; omega
      have HL := Lib.hid hlt
      clear u hlt
      go_wp2
      go_roundw
      case rel => exact ⟨i + 1, rfl, by go_num, by have := HL.out; omega, hq⟩
      case measure => have := HL.out; simp [intOf]; omega
    · have l1 : decide ((i : Int) < n) = false := decide_eq_false hlt
      obtain ⟨m, hm⟩ : ∃ m, 1074 + i = m := ⟨_, rfl⟩
      have hmb : (1074 : Int) + max n 0 = m := by omega
      rw [hm]
      have HQ := Lib.hid hq.out
      clear hq hlt hi
      go_wp2
      go_loopw [3, 5] (fun v3 v5 wr => ∃ j : Nat, v3 = .float .f64 (tw (m - j)) ∧ v5 = .int .i64 (-(j : Int)) ∧ (j : Int) ≤ max (-n) 0 ∧ Hid (wr = w)) (fun _ v _ => 2000 - (-(intOf v)).toNat)
      case atStart => exact ⟨0, rfl, rfl, by omega, HQ⟩
      case round =>
        obtain ⟨j, rfl, rfl, hj, hq⟩ := hrel
        by_cases hgt : n < -(j : Int)
        · have l2 : decide (n < -(j : Int)) = true := decide_eq_true hgt
          obtain ⟨e, he⟩ : ∃ e, m - j = e + 1 := ⟨m - j - 1, by omega⟩
          have he2 : m - (j + 1) = e := by omega
          have u := tw_down (e := e) (by omega)
          have s1 : ∀ t w, (binOp .quo t (.float .f64 (tw (e + 1))) (.float .f64 4611686018427387904)).run Tryd.prog w = .ok (.float .f64 (tw e)) w := fun t w => run_float_arith w .quo t .f64 _ _ _ u
          have j1 : IntKind.i64.wrap (-(j : Int) - 1) = -((j + 1 : Nat) : Int) := by rw [IntKind.wrap_i64]; omega
          have HL := Lib.hid hgt
          rw [he]
          clear u hgt
          go_wp2
          go_roundw
          case rel => exact ⟨j + 1, by rw [he2], rfl, by have := HL.out; omega, hq⟩
          case measure => have := HL.out; simp [intOf]; omega
        · have l2 : decide (n < -(j : Int)) = false := decide_eq_false hgt
          have he : m - j = (1074 + n).toNat := by omega
          rw [he]
          clear hgt
          go_wp2
          go_ret
          exact ⟨rfl, hq.out⟩
end Go.Proofs.YtfjiojdnbdfenaaDoor


/- A region that draws its order, more: a load whose value goes a longer way to the writing call. -/
namespace Go.Proofs.YtfjiojdnbdfenaaDoor
open Go
section
variable {P : Program} {ops : Array Oper} {Q : Exit → Act → World → Prop} {md : Region.Mode} {S : World → Prop} {g : Nat}
/-- Each waits for the one ahead of it. -/
def chainW (md : Region.Mode) (ops : Array Oper) : Nat → List Nat → Bool
  | _, [] => true
  | i, c :: r => Waits md ops c i && chainW md ops c r
theorem chainW.not_ready {listed : Array Bool} : ∀ (cs : List Nat) (i : Nat), chainW md ops i cs = true → listed.getD i true = false → (∀ c ∈ cs, listed.getD c true = false) → ∀ c ∈ cs, c ∉ Region.ready md ops listed
  | [], _, _, _, _, _, h => by cases h
  | c :: r, i, hw, hi, hc, d, hd => by
    unfold chainW at hw
    simp only [Bool.and_eq_true] at hw
    rcases List.mem_cons.1 hd with rfl | hd
    · exact Waits.not_ready hw.1 hi
    · exact chainW.not_ready r c hw.2 (hc c (by simp)) (fun x hx => hc x (by simp [hx])) d hd
theorem wpG_loadC {i : Nat} (cs : List Nat) {oi : Oper} {v : Value} (hgi : i ≠ g) (hcs : chainW md ops i cs = true) (hgc : g ∈ cs) (hi : ops[i]? = some oi) (hsel : ∀ (j : Nat) (o : Oper) cs b, ops[j]? = some o → o.op ≠ .select cs b)
    (hQ : ∀ c a w, Q (.panic c) (a.put oi.dst v) w → Q (.panic c) a w) :
    ∀ (fuel : Nat) (listed : Array Bool) (a : Act) (w : World),
      (∀ j oj, ops[j]? = some oj → j ≠ i → listed.getD j true = false → (∀ e ∈ oj.after, Region.binds md e = true → e.on ≠ i) → oi.apart ops oj = true) →
      i ∈ Region.ready md ops listed → (∀ c ∈ cs, listed.getD c true = false) → YieldsIf P ops S oi v a → S w →
      wpG P md ops Q S g fuel (listed.setIfInBounds i true) (a.put oi.dst v) w → wpG P md ops Q S g (fuel + 1) listed a w := by
  intro fuel
  induction fuel with
  | zero =>
    intro listed a w _ hr hc hy hS H
    refine ⟨fun h => (by rw [h] at hr; cases hr), fun j hj => ?_⟩
    by_cases hji : j = i
    · subst hji; exact hy.wpOp hi hS ⟨.inr hS, H⟩
    · have := ready_mono hj hji
      rw [H.1] at this
      cases this
  | succ fuel ih =>
    intro listed a w hfree hr hc hy hS H
    refine ⟨fun h => (by rw [h] at hr; cases hr), fun j hj => ?_⟩
    by_cases hji : j = i
    · subst hji; exact hy.wpOp hi hS ⟨.inr hS, H⟩
    · have h1 := H.2 j (ready_mono hj hji)
      have hun := (mem_ready.1 hr).1
      have hjc : ∀ c ∈ cs, j ≠ c := fun c hc' h => chainW.not_ready cs i hcs hun hc c hc' (h ▸ hj)
      have hjg : j ≠ g := hjc g hgc
      obtain ⟨hjun, oj, hoj, hall⟩ := mem_ready.1 hj
      have hnot : ∀ e ∈ oj.after, Region.binds md e = true → e.on ≠ i := fun e he hb heq => by
        have h1 := hall e he hb
        rw [heq] at h1
        rcases Nat.lt_or_ge i listed.size with h' | h'
        · simp [h'] at hun h1; rw [hun] at h1; cases h1
        · simp [Array.getElem?_eq_none h'] at h1
      have h2 := wpOp_putIf hoj (hfree j oj hoj hji hjun hnot) (fun cs b => hsel i oi cs b hi) (fun cs b => hsel j oj cs b hoj) hQ hy h1
      have hfree' : ∀ k ok, ops[k]? = some ok → k ≠ i → (listed.setIfInBounds j true).getD k true = false →
          (∀ e ∈ ok.after, Region.binds md e = true → e.on ≠ i) → oi.apart ops ok = true := fun k ok hk hki hun hno => by
        refine hfree k ok hk hki ?_ hno
        by_cases hjk : j = k
        · subst hjk; exact hjun
        · rw [getD_set_ne true hjk] at hun; exact hun
      refine wpOp_mono (fun a' w' h3 => ?_) h2
      have e : (listed.setIfInBounds j true).setIfInBounds i true = (listed.setIfInBounds i true).setIfInBounds j true := Array.setIfInBounds_comm _ _ hji
      have hS2 : S w' := by
        rcases h3.2.1 with h4 | h4
        · rw [← e, getD_set_ne true hgi, getD_set_ne true hjg, hc g hgc] at h4; cases h4
        · exact h4
      exact ⟨.inr hS2, ih (listed.setIfInBounds j true) a' w' hfree' (ready_mono hr (Ne.symm hji)) (fun c hc' => by rw [getD_set_ne true (hjc c hc')]; exact hc c hc') h3.1 hS2 (by rw [e]; exact h3.2.2)⟩
theorem wpG_ldC {i : Nat} (cs : List Nat) {oi : Oper} {v : Value} {fuel : Nat} {listed : Array Bool} {a : Act} {w : World} (hi : ops[i]? = some oi) (hgi : (i != g) = true)
    (hs : Region.noSelect ops = true) (hf : Region.free md ops listed i = true) (hr : (Region.ready md ops listed).contains i = true)
    (hw : (chainW md ops i cs && cs.contains g && cs.all (fun c => !(listed.getD c true))) = true)
    (hQ : ∀ c a w, Q (.panic c) (a.put oi.dst v) w → Q (.panic c) a w) (hy : YieldsIf P ops S oi v a) (hS : S w)
    (h : wpG P md ops Q S g fuel (listed.setIfInBounds i true) (a.put oi.dst v) w) : wpG P md ops Q S g (fuel + 1) listed a w := by
  simp only [Bool.and_eq_true, List.all_eq_true, Bool.not_eq_true'] at hw
  exact wpG_loadC cs (by simpa using hgi) hw.1.1 (by simpa using hw.1.2) hi (Region.noSelect_spec hs) hQ fuel listed a w (Region.free_spec hi hf) (by simpa using hr) (fun c hc => hw.2 c hc) hy hS h
end
end Go.Proofs.YtfjiojdnbdfenaaDoor


/- girderref17.Chord: the same chain as sturm.Chord's. -/
namespace Go.Proofs.YtfjiojdnbdfenaaDoor
open Go Go.RowKit Nv GFl Ieee
open Go.Proofs.YtfjiojdnbdfenaaDoorW.PrintWords (own_move own_ne own_lt print_append_cells step_append_cells)
set_option maxRecDepth 100000
set_option linter.unusedSimpArgs false

theorem kb_cellA {w : World} {a : Addr} {v : Value} (h : w.cell? a = some v) (o : Obj) : (w.alloc o).cell? a = some v := ((bl_alloc (Below.refl _ _) o).cell (World.block_lt_of_cell? w _ h)).trans h
theorem cb {W w : World} {a : Addr} {v : Value} (hb : Below W.heap.size W w) (h : W.cell? a = some v) : w.cell? a = some v := (hb.cell (World.block_lt_of_cell? W _ h)).trans h
def fj (p l : List Nat) (s k : Nat) : Bool := finB s && (p.take k).all finB && (l.take k).all finB
def gj (p l : List Nat) (s k : Nat) : Bool := pshB s && (p.take k).all btwB && (l.take k).all btwB
theorem and3 (a b c x y : Bool) : (a && (b && y) && (c && x)) = (((a && b && c) && x) && y) := by cases a <;> cases b <;> cases c <;> cases x <;> cases y <;> rfl
theorem and3' (a b c x : Bool) : (a && b && (c && x)) = ((a && b && c) && x) := by cases a <;> cases b <;> cases c <;> cases x <;> rfl
theorem t60_c (w : World) : Calls Tryd.prog 38 #[.int .i64 60] w fun e w' => e = .returned (.float .f64 4877398396442247168) ∧ w' = w := by
  have := pow2_c 60 (by decide) (by decide) w
  rwa [show tw ((1074 : Int) + 60).toNat = 4877398396442247168 by decide +kernel] at this
theorem t60n_c (w : World) : Calls Tryd.prog 38 #[.int .i64 (-60)] w fun e w' => e = .returned (.float .f64 4336966441157787648) ∧ w' = w := by
  have := pow2_c (-60) (by decide) (by decide) w
  rwa [show tw ((1074 : Int) + (-60)).toNat = 4336966441157787648 by decide +kernel] at this
set_option maxHeartbeats 8000000 in
theorem chordR_no (A B : Option Addr) (cA cB : Nat) (p l : List Nat) (s : Nat) (W : World) (hp : Fl W A p) (hl : Fl W B l) (h : shpB p l = false) :
    Calls Tryd.prog 24 #[.slice A p.length cA, .slice B l.length cB, .float .f64 s] W (ChP W p l s) := by
  have ne : chordE p l s = 4 := by unfold chordE; rw [if_neg (by rw [h]; simp)]
  have l1 := hp.2.1
  have l2 := hl.2.1
  have NE := Lib.hid ne
  have fin : ∀ w', Below W.heap.size W w' → ChP W p l s (.returned (.tuple #[.agg #[.slice none 0 0, .slice none 0 0], .int .i64 4])) w' := fun w' hb => by
    have := ChP.none_ (W := W) (p := p) (l := l) (s := s) (w' := w') (by rw [ne]; decide) hb
    rw [ne] at this
    exact this
  have FIN := Lib.hid fin
  unfold shpB at h
  clear ne fin hp hl
  by_cases h1 : p.length < 1
  · have k1 : decide (p.length < 1) = true := decide_eq_true h1
    have k2 : decide ((p.length : Int) < 1) = true := decide_eq_true (by omega)
    clear h
    go_enter Tryd.func24, Tryd.ntmps24
    go_wp2
    exact bodyPost_ret (v := .tuple #[.agg #[.slice none 0 0, .slice none 0 0], .int .i64 4]) (by simp [results, Tryd.results24, go_sem]) rfl (FIN.out _ (by repeat' (first | (with_reducible exact Below.refl _ _) | (with_reducible refine bl_alloc ?_ _) | (with_reducible refine bl_drewN ?_ _) | (with_reducible refine bl_drew ?_) | (with_reducible refine bl_set ?_ _ (by simp)))))
  · have k1 : decide (p.length < 1) = false := decide_eq_false h1
    have k2 : decide ((p.length : Int) < 1) = false := decide_eq_false (by omega)
    by_cases h2 : 64 < p.length
    · have k3 : decide (64 < p.length) = true := decide_eq_true h2
      have k4 : decide ((64 : Int) < (p.length : Int)) = true := decide_eq_true (by omega)
      clear h
      go_enter Tryd.func24, Tryd.ntmps24
      go_wp2
      exact bodyPost_ret (v := .tuple #[.agg #[.slice none 0 0, .slice none 0 0], .int .i64 4]) (by simp [results, Tryd.results24, go_sem]) rfl (FIN.out _ (by repeat' (first | (with_reducible exact Below.refl _ _) | (with_reducible refine bl_alloc ?_ _) | (with_reducible refine bl_drewN ?_ _) | (with_reducible refine bl_drew ?_) | (with_reducible refine bl_set ?_ _ (by simp)))))
    · have k3 : decide (64 < p.length) = false := decide_eq_false h2
      have k4 : decide ((64 : Int) < (p.length : Int)) = false := decide_eq_false (by omega)
      have k5 : ((l.length : Int) != (p.length : Int) + 1) = true := by simp at h ⊢; omega
      clear h
      go_enter Tryd.func24, Tryd.ntmps24
      go_wp2
      exact bodyPost_ret (v := .tuple #[.agg #[.slice none 0 0, .slice none 0 0], .int .i64 4]) (by simp [results, Tryd.results24, go_sem]) rfl (FIN.out _ (by repeat' (first | (with_reducible exact Below.refl _ _) | (with_reducible refine bl_alloc ?_ _) | (with_reducible refine bl_drewN ?_ _) | (with_reducible refine bl_drew ?_) | (with_reducible refine bl_set ?_ _ (by simp)))))
set_option maxHeartbeats 16000000 in
theorem chordR_yes (A B : Option Addr) (cA cB : Nat) (p l : List Nat) (s : Nat) (W : World) (hp : Fl W A p) (hl : Fl W B l) (wp : ∀ x ∈ p, W64 x) (wl : ∀ x ∈ l, W64 x) (hs : W64 s) (h : shpB p l = true) :
    Calls Tryd.prog 24 #[.slice A p.length cA, .slice B l.length cB, .float .f64 s] W (ChP W p l s) := by
  have HS := Lib.hid hs
  have HP := Lib.hid hp
  have HL := Lib.hid hl
  have WP := Lib.hid wp
  have WL := Lib.hid wl
  have h2 := h
  unfold shpB at h2
  simp only [decide_eq_true_eq] at h2
  obtain ⟨a1, a2, a3⟩ := h2
  have SH := Lib.hid h
  have k1 : decide (p.length < 1) = false := decide_eq_false (by omega)
  have k2 : decide ((p.length : Int) < 1) = false := decide_eq_false (by omega)
  have k3 : decide (64 < p.length) = false := decide_eq_false (by omega)
  have k4 : decide ((64 : Int) < (p.length : Int)) = false := decide_eq_false (by omega)
  have k5 : ((l.length : Int) != (p.length : Int) + 1) = false := by simp; omega
  have k6 : IntKind.i64.wrap ((p.length : Int) + 1) = (p.length : Int) + 1 := by rw [IntKind.wrap_i64]; omega
  have HA3 := Lib.hid a3
  have hl65 : l.length ≤ 65 := by omega
  clear hp hl wp wl hs h a3
  go_enter Tryd.func24, Tryd.ntmps24
  go_upto_region 4 with (fail)
  go_cut [9] (fun v9 wx => v9 = .bool (finB s) ∧ Hid (CW W wx))
  case first =>
    cases hf : finB s
    · have s0 := nofin_sub HS.out hf
      have S0 := Lib.hid s0
      have HF := Lib.hid hf
      clear s0 hf
      go_wp2_with (first
        | (refine wp_arith .f64 s s rfl rfl rfl ?_; intro r n hr; rw [S0.out] at hr; have t0 := nan_eq hr.1 hr.2; clear hr))
      go_meet
      exact ⟨by rw [HF.out], Lib.hid ⟨by repeat' (first | (with_reducible exact Below.refl _ _) | (with_reducible refine bl_alloc ?_ _) | (with_reducible refine bl_drewN ?_ _) | (with_reducible refine bl_drew ?_) | (with_reducible refine bl_set ?_ _ (by simp))), by first | exact kb_new (Below.refl _ _) | exact kb_new (bl_drewN (Below.refl _ _) _)⟩⟩
    · have s0 := fin_sub HS.out hf
      have z0 : (FloatKind.f64.format.order 0 0 == some .eq) = true := by decide
      have HF := Lib.hid hf
      clear hf
      go_wp2
      go_meet
      exact ⟨by rw [HF.out], Lib.hid ⟨by repeat' (first | (with_reducible exact Below.refl _ _) | (with_reducible refine bl_alloc ?_ _) | (with_reducible refine bl_drewN ?_ _) | (with_reducible refine bl_drew ?_) | (with_reducible refine bl_set ?_ _ (by simp))), by first | exact kb_new (Below.refl _ _) | exact kb_new (bl_drewN (Below.refl _ _) _)⟩⟩
  case rest =>
    obtain ⟨rfl, hcw⟩ := hcut
    obtain ⟨f0, hf0⟩ : ∃ b, finB s = b := ⟨_, rfl⟩
    have HF0 := Lib.hid hf0
    rw [hf0]
    clear hf0
    go_upto_region 5 with (fail)
    go_cut [10] (fun v10 wx => v10 = .bool (pshB s) ∧ Hid (CW W wx))
    case first =>
      have t1 := t_ge HS.out (w_const (by decide) : W64 0)
      have t2 := t_le HS.out (w_const (by decide) : W64 4877398396442247168)
      rw [show isn 0 = false by decide, show plc 0 = 0 by decide] at t1
      rw [show isn 4877398396442247168 = false by decide, show plc 4877398396442247168 = 4877398396442247168 by decide] at t2
      have T : Hid ((FloatKind.f64.format.order s 0 == some .gt || FloatKind.f64.format.order s 0 == some .eq) = (!isn s && decide (0 ≤ plc s))) := Lib.hid (by rw [t1]; simp)
      have T2 : Hid ((FloatKind.f64.format.order s 4877398396442247168 == some .lt || FloatKind.f64.format.order s 4877398396442247168 == some .eq) = (!isn s && decide (plc s ≤ 4877398396442247168))) := Lib.hid (by rw [t2]; simp)
      have PB : Hid (pshB s = ((!isn s && decide (0 ≤ plc s)) && (!isn s && decide (plc s ≤ 4877398396442247168)))) := Lib.hid (by unfold pshB; cases isn s <;> simp)
      clear t1 t2
      obtain ⟨u, hu⟩ : ∃ u, (!isn s && decide (0 ≤ plc s)) = u := ⟨_, rfl⟩
      obtain ⟨v, hv⟩ : ∃ v, (!isn s && decide (plc s ≤ 4877398396442247168)) = v := ⟨_, rfl⟩
      rw [hu] at T PB
      rw [hv] at T2 PB
      have t1 := T.out
      have t2 := T2.out
      clear hu hv T T2
      cases u <;> cases v
      all_goals
        go_wp2_with (first
          | (go_at_call 38; (with_reducible (first | refine (t60_c _).mono ?_ | refine (t60n_c _).mono ?_)); rintro e w7 ⟨rfl, rfl⟩))
        go_meet
        exact ⟨by rw [PB.out]; rfl, hcw⟩
    case rest =>
      obtain ⟨rfl, hcw2⟩ := hcut
      obtain ⟨g0, hg0⟩ : ∃ b, pshB s = b := ⟨_, rfl⟩
      have HG0 := Lib.hid hg0
      rw [hg0]
      clear hg0 hcw
      go_wp2
      go_loopw [9, 10, 11] (fun v9 v10 v11 wr => ∃ (k : Nat) (F G : Bool), v9 = .bool F ∧ v10 = .bool G ∧ v11 = .int .i64 k ∧ k ≤ p.length + 1 ∧ Hid (F = fj p l s k ∧ G = gj p l s k ∧ CW W wr)) (fun _ _ v _ => p.length + 1 - (intOf v).toNat)
      case atStart => exact ⟨0, _, _, rfl, rfl, rfl, by omega, Lib.hid ⟨by unfold fj; rw [HF0.out]; simp, by unfold gj; rw [HG0.out]; simp, hcw2.out⟩⟩
      case round =>
        obtain ⟨k, F, G, rfl, rfl, rfl, hk, hq⟩ := hrel
        clear hcw2
        by_cases hle : k ≤ p.length
        · have l1 : decide (k ≤ p.length) = true := decide_eq_true hle
          have hlt : k < l.length := by have := HA3.out; omega
          obtain ⟨bd, hB, d0⟩ := HL.out.at hlt
          subst hB
          have m0 := cb hq.out.2.2.b d0
          have HX := Lib.hid (WL.out _ (List.getElem_mem hlt))
          have j0 : (0 : Int) ≤ (k : Int) := by omega
          have j1 : (k : Int) < (l.length : Int) := by omega
          have j2 : IntKind.i64.wrap ((k : Int) + 1) = (k : Int) + 1 := by rw [IntKind.wrap_i64]; omega
          have FL : Hid ((l.take (k + 1)).all finB = ((l.take k).all finB && finB l[k])) := Lib.hid (all_snoc hlt)
          have GL : Hid ((l.take (k + 1)).all btwB = ((l.take k).all btwB && btwB l[k])) := Lib.hid (all_snoc hlt)
          obtain ⟨x, hx⟩ : ∃ x, l[k] = x := ⟨_, rfl⟩
          rw [hx] at m0 HX FL GL
          have HF := Lib.hid hq.out.1
          have HG := Lib.hid hq.out.2.1
          have HC := Lib.hid hq.out.2.2
          have HK := Lib.hid hk
          clear d0 hx hlt hq hk
          go_upto_region 10 with (fail)
          go_cut [9] from 45 to 96 (fun v9 wx => v9 = .bool (F && finB x) ∧ Hid (CW W wx))
          case first =>
            cases F
            · go_wp2
              go_meet
              exact ⟨rfl, HC⟩
            · cases hf : finB x
              · have s0 := nofin_sub HX.out hf
                have S0 := Lib.hid s0
                have HE := Lib.hid hf
                clear s0 hf
                obtain ⟨r, n, hr, re⟩ := (fun (w : World) (_ : CW W w) => run_arith (P := Tryd.prog) .sub 25 .f64 x x w rfl) _ HC.out
                rw [S0.out] at hr
                have t0 := nan_eq hr.1 hr.2
                clear hr
                go_wp2
                go_meet
                exact ⟨by rw [HE.out]; rfl, Lib.hid (HC.out.drewN _)⟩
              · have s0 := fin_sub HX.out hf
                have z0 : (FloatKind.f64.format.order 0 0 == some .eq) = true := by decide
                have HE := Lib.hid hf
                clear hf
                go_wp2
                go_meet
                exact ⟨by rw [HE.out]; rfl, HC⟩
          case rest =>
            obtain ⟨rfl, HC2⟩ := hcut
            obtain ⟨F1, hF1⟩ : ∃ b, (F && finB x) = b := ⟨_, rfl⟩
            have HF1 := Lib.hid hF1
            rw [hF1]
            clear hF1
            go_upto_region 11 with (fail)
            go_cut [10] from 45 to 96 (fun v10 wx => v10 = .bool (G && btwB x) ∧ Hid (CW W wx))
            case first =>
              have t1 := t_ge HX.out (w_const (by decide) : W64 4336966441157787648)
              have t2 := t_le HX.out (w_const (by decide) : W64 4877398396442247168)
              rw [show isn 4336966441157787648 = false by decide, show plc 4336966441157787648 = 4336966441157787648 by decide] at t1
              rw [show isn 4877398396442247168 = false by decide, show plc 4877398396442247168 = 4877398396442247168 by decide] at t2
              have T : Hid ((FloatKind.f64.format.order x 4336966441157787648 == some .gt || FloatKind.f64.format.order x 4336966441157787648 == some .eq) = (!isn x && decide (4336966441157787648 ≤ plc x))) := Lib.hid (by rw [t1]; simp)
              have T2 : Hid ((FloatKind.f64.format.order x 4877398396442247168 == some .lt || FloatKind.f64.format.order x 4877398396442247168 == some .eq) = (!isn x && decide (plc x ≤ 4877398396442247168))) := Lib.hid (by rw [t2]; simp)
              have PB : Hid (btwB x = ((!isn x && decide (4336966441157787648 ≤ plc x)) && (!isn x && decide (plc x ≤ 4877398396442247168)))) := Lib.hid (by unfold btwB; cases isn x <;> simp)
              clear t1 t2
              obtain ⟨u, hu⟩ : ∃ u, (!isn x && decide (4336966441157787648 ≤ plc x)) = u := ⟨_, rfl⟩
              obtain ⟨v, hv⟩ : ∃ v, (!isn x && decide (plc x ≤ 4877398396442247168)) = v := ⟨_, rfl⟩
              rw [hu] at T PB
              rw [hv] at T2 PB
              have t1 := T.out
              have t2 := T2.out
              clear hu hv T T2
              cases G <;> cases u <;> cases v
              all_goals
                go_wp2_with (first
                  | (go_at_call 38; (with_reducible (first | refine (t60_c _).mono ?_ | refine (t60n_c _).mono ?_)); rintro e w7 ⟨rfl, rfl⟩))
                go_meet
                exact ⟨by rw [PB.out]; rfl, HC2⟩
            case rest =>
              obtain ⟨rfl, HC3⟩ := hcut
              obtain ⟨G1, hG1⟩ : ∃ b, (G && btwB x) = b := ⟨_, rfl⟩
              have HG1 := Lib.hid hG1
              rw [hG1]
              clear hG1
              by_cases hlp : k < p.length
              · have l2 : decide (k < p.length) = true := decide_eq_true hlp
                obtain ⟨ad, hA, d0⟩ := HP.out.at hlp
                subst hA
                have m1 := cb HC3.out.b d0
                have HY := Lib.hid (WP.out _ (List.getElem_mem hlp))
                have j3 : (k : Int) < (p.length : Int) := by omega
                have FP : Hid ((p.take (k + 1)).all finB = ((p.take k).all finB && finB p[k])) := Lib.hid (all_snoc hlp)
                have GP : Hid ((p.take (k + 1)).all btwB = ((p.take k).all btwB && btwB p[k])) := Lib.hid (all_snoc hlp)
                obtain ⟨y, hy⟩ : ∃ y, p[k] = y := ⟨_, rfl⟩
                rw [hy] at m1 HY FP GP
                have GE : Hid (gj p l s (k + 1) = ((gj p l s k && btwB x) && btwB y)) := Lib.hid (by unfold gj; rw [GL.out, GP.out, and3])
                have FE : Hid (fj p l s (k + 1) = ((fj p l s k && finB x) && finB y)) := Lib.hid (by unfold fj; rw [FL.out, FP.out, and3])
                have HLP := Lib.hid hlp
                clear d0 hy hlp hle m0
                go_upto_region 14 with (fail)
                go_cut [9] from 45 to 96 (fun v9 wx => v9 = .bool (F1 && finB y) ∧ Hid (CW W wx))
                case first =>
                  cases F1
                  · go_wp2
                    go_meet
                    exact ⟨rfl, HC3⟩
                  · cases hf : finB y
                    · have s0 := nofin_sub HY.out hf
                      have S0 := Lib.hid s0
                      have HE := Lib.hid hf
                      clear s0 hf
                      obtain ⟨r, n, hr, re⟩ := (fun (w : World) (_ : CW W w) => run_arith (P := Tryd.prog) .sub 25 .f64 y y w rfl) _ HC3.out
                      rw [S0.out] at hr
                      have t0 := nan_eq hr.1 hr.2
                      clear hr
                      go_wp2
                      go_meet
                      exact ⟨by rw [HE.out]; rfl, Lib.hid (HC3.out.drewN _)⟩
                    · have s0 := fin_sub HY.out hf
                      have z0 : (FloatKind.f64.format.order 0 0 == some .eq) = true := by decide
                      have HE := Lib.hid hf
                      clear hf
                      go_wp2
                      go_meet
                      exact ⟨by rw [HE.out]; rfl, HC3⟩
                case rest =>
                  obtain ⟨rfl, HC4⟩ := hcut
                  obtain ⟨F2, hF2⟩ : ∃ b, (F1 && finB y) = b := ⟨_, rfl⟩
                  have HF2 := Lib.hid hF2
                  rw [hF2]
                  clear hF2
                  go_upto_region 15 with (fail)
                  have t1 := t_ge HY.out (w_const (by decide) : W64 4336966441157787648)
                  have t2 := t_le HY.out (w_const (by decide) : W64 4877398396442247168)
                  rw [show isn 4336966441157787648 = false by decide, show plc 4336966441157787648 = 4336966441157787648 by decide] at t1
                  rw [show isn 4877398396442247168 = false by decide, show plc 4877398396442247168 = 4877398396442247168 by decide] at t2
                  have T : Hid ((FloatKind.f64.format.order y 4336966441157787648 == some .gt || FloatKind.f64.format.order y 4336966441157787648 == some .eq) = (!isn y && decide (4336966441157787648 ≤ plc y))) := Lib.hid (by rw [t1]; simp)
                  have T2 : Hid ((FloatKind.f64.format.order y 4877398396442247168 == some .lt || FloatKind.f64.format.order y 4877398396442247168 == some .eq) = (!isn y && decide (plc y ≤ 4877398396442247168))) := Lib.hid (by rw [t2]; simp)
                  have PB : Hid (btwB y = ((!isn y && decide (4336966441157787648 ≤ plc y)) && (!isn y && decide (plc y ≤ 4877398396442247168)))) := Lib.hid (by unfold btwB; cases isn y <;> simp)
                  clear t1 t2
                  obtain ⟨u, hu⟩ : ∃ u, (!isn y && decide (4336966441157787648 ≤ plc y)) = u := ⟨_, rfl⟩
                  obtain ⟨v, hv⟩ : ∃ v, (!isn y && decide (plc y ≤ 4877398396442247168)) = v := ⟨_, rfl⟩
                  rw [hu] at T PB
                  rw [hv] at T2 PB
                  have t1 := T.out
                  have t2 := T2.out
                  clear hu hv T T2
                  cases G1 <;> cases u <;> cases v
                  all_goals
                    go_wp2_with (first
                      | (go_at_call 38; (with_reducible (first | refine (t60_c _).mono ?_ | refine (t60n_c _).mono ?_)); rintro e w7 ⟨rfl, rfl⟩))
                    go_roundw
                    case rel => exact ⟨k + 1, F2, _, rfl, rfl, by go_num, by have := HLP.out; omega, Lib.hid ⟨by rw [FE.out, ← HF.out, HF1.out, HF2.out], by rw [GE.out, ← HG.out, HG1.out, PB.out]; rfl, HC4.out⟩⟩
                    case measure => have := HLP.out; simp [intOf]; omega
              · have l2 : decide (k < p.length) = false := decide_eq_false hlp
                have tp : p.take (k + 1) = p.take k := by rw [List.take_of_length_le (by omega), List.take_of_length_le (by omega)]
                have TP := Lib.hid tp
                have HLP := Lib.hid hle
                clear tp hlp hle m0
                go_wp2
                go_roundw
                case rel => exact ⟨k + 1, F1, G1, rfl, rfl, by go_num, by have := HLP.out; omega, Lib.hid ⟨by unfold fj; rw [FL.out, TP.out, and3', ← HF1.out, HF.out]; rfl, by unfold gj; rw [GL.out, TP.out, and3', ← HG1.out, HG.out]; rfl, HC3.out⟩⟩
                case measure => have := HLP.out; simp [intOf]; omega
        · have l1 : decide (k ≤ p.length) = false := decide_eq_false hle
          have b2 := kb_cell hq.out.2.2.r (i := 0) rfl
          have b3 := kb_cell hq.out.2.2.r (i := 1) rfl
          have b4 := kb_frozen hq.out.2.2.r 0
          have b5 := kb_frozen hq.out.2.2.r 1
          have tp : p.take k = p := List.take_of_length_le (by omega)
          have tl : l.take k = l := List.take_of_length_le (by have := HA3.out; omega)
          have fF : F = cfin p l s := by rw [hq.out.1]; unfold fj cfin; rw [tp, tl]
          have gG : G = cgood p l s := by rw [hq.out.2.1]; unfold gj cgood; rw [tp, tl]
          have CWH := Lib.hid hq.out.2.2
          have HF := Lib.hid fF
          have HG := Lib.hid gG
          have z2 := heap_set (heap_set hq.out.2.2.r 0 (.slice none 0 0)) 1 (.slice none 0 0)
          have Z0 := Lib.hid (kb_cell z2 (i := 0) (v := .slice none 0 0) rfl)
          have Z1 := Lib.hid (kb_cell z2 (i := 1) (v := .slice none 0 0) rfl)
          clear fF gG hq z2 hle tp tl hk
          cases F
          · have ce : chordE p l s = 5 := by unfold chordE; rw [if_pos SH.out, if_neg (by rw [← HF.out]; simp)]
            have CE := Lib.hid ce
            clear ce
            go_wp2
            refine bodyPost_ret (v := .tuple #[.agg #[.slice none 0 0, .slice none 0 0], .int .i64 5]) (by simp [results, Tryd.results24, go_sem, Z0.out, Z1.out]) rfl ?_
            have := ChP.none_ (W := W) (p := p) (l := l) (s := s) (w' := (wr.setCell ⟨W.heap.size, 0, none⟩ (.slice none 0 0)).setCell ⟨W.heap.size, 1, none⟩ (.slice none 0 0)) (by rw [CE.out]; decide) (((CWH.out.b).setCell (p := ⟨W.heap.size, 0, none⟩) (Nat.le_refl _) _).setCell (p := ⟨W.heap.size, 1, none⟩) (Nat.le_refl _) _)
            rw [CE.out] at this
            exact this
          · cases G
            · have ce : chordE p l s = 2 := by unfold chordE; rw [if_pos SH.out, if_pos HF.out.symm, if_neg (by rw [← HG.out]; simp)]
              have CE := Lib.hid ce
              clear ce
              go_wp2
              refine bodyPost_ret (v := .tuple #[.agg #[.slice none 0 0, .slice none 0 0], .int .i64 2]) (by simp [results, Tryd.results24, go_sem, Z0.out, Z1.out]) rfl ?_
              have := ChP.none_ (W := W) (p := p) (l := l) (s := s) (w' := (wr.setCell ⟨W.heap.size, 0, none⟩ (.slice none 0 0)).setCell ⟨W.heap.size, 1, none⟩ (.slice none 0 0)) (by rw [CE.out]; decide) (((CWH.out.b).setCell (p := ⟨W.heap.size, 0, none⟩) (Nat.le_refl _) _).setCell (p := ⟨W.heap.size, 1, none⟩) (Nat.le_refl _) _)
              rw [CE.out] at this
              exact this
            · have ce : chordE p l s = 0 := by unfold chordE; rw [if_pos SH.out, if_pos HF.out.symm, if_pos HG.out.symm]
              have gd := HG.out.symm
              unfold cgood at gd
              simp only [Bool.and_eq_true, List.all_eq_true] at gd
              have SP := Lib.hid (psh_of HS.out gd.1.1)
              have BP : Hid (∀ x ∈ p, Bt x) := Lib.hid (fun x hx => btw_of (WP.out x hx) (gd.1.2 x hx))
              have BL : Hid (∀ x ∈ l, Bt x) := Lib.hid (fun x hx => btw_of (WL.out x hx) (gd.2 x hx))
              have CE := Lib.hid ce
              have hsz : W.heap.size < wr.heap.size := kb_lt CWH.out.r
              have H0 : Hid (HW W (wr.alloc (.cells #[.slice none 0 0, .slice none 0 0] 24)) wr.heap.size (.slice none 0 0) (.slice none 0 0) [] []) := Lib.hid ⟨CWH.out.b.alloc CWH.out.b.size _, kb_alloc CWH.out.r, kb_new (Below.refl _ _), World.ownsRow_nil _ _ _ _, World.ownsRow_nil _ _ _ _, fun b hb => (by simp [Value.ownBlock] at hb), hsz⟩
              have HSZ := Lib.hid hsz
              clear ce gd CWH b2 b3 b4 b5 hsz
              obtain ⟨wq, hwq⟩ : ∃ w, w = wr := ⟨_, rfl⟩
              subst hwq
              go_wp2
              go_loopw [14] (fun v14 w2 => ∃ (k : Nat) (vD vO : Value), v14 = .int .i64 k ∧ k ≤ p.length ∧ Hid (HW W w2 wq.heap.size vD vO (chDk p l s k) (chOk l s (min k (p.length - 1))))) (fun v _ => p.length - (intOf v).toNat)
              case atStart => exact ⟨0, _, _, rfl, Nat.zero_le _, Lib.hid (by rw [Nat.zero_min]; exact H0.out)⟩
              case round =>
                obtain ⟨k, vD, vO, rfl, hk, hq⟩ := hrel
                clear H0
                by_cases hlt : k < p.length
                · have l1 : decide (k < p.length) = true := decide_eq_true hlt
                  have hl0 : k < l.length := by have := HA3.out; omega
                  have hl1 : k + 1 < l.length := by have := HA3.out; omega
                  obtain ⟨ad, hA, hc⟩ := HP.out.at hlt
                  obtain ⟨bd, hB, hc1⟩ := HL.out.at hl0
                  obtain ⟨bd', hB', hc2⟩ := HL.out.at hl1
                  subst hA
                  subst hB
                  injection hB' with hB'
                  subst hB'
                  have m0 : wr.cell? (ad.add k) = some (.float .f64 p[k]) := (hq.out.b.cell (World.block_lt_of_cell? W _ hc)).trans hc
                  have m1 : wr.cell? (bd.add k) = some (.float .f64 l[k]) := (hq.out.b.cell (World.block_lt_of_cell? W _ hc1)).trans hc1
                  have m2 : wr.cell? ⟨bd.block, bd.off + (k + 1), none⟩ = some (.float .f64 l[k + 1]) := by
                    have := (hq.out.b.cell (World.block_lt_of_cell? W _ hc2)).trans hc2
                    simpa [Addr.add] using this
                  have c0 := kb_cell hq.out.q (i := 0) (v := vD) rfl
                  have c1 := kb_cell hq.out.q (i := 1) (v := vO) rfl
                  have f0 := kb_frozen hq.out.q 0
                  have f1 := kb_frozen hq.out.q 1
                  obtain ⟨x1, x2, x3, _⟩ := quo_ok SP.out (BL.out _ (List.getElem_mem hl0))
                  obtain ⟨y1, y2, y3, _⟩ := quo_ok SP.out (BL.out _ (List.getElem_mem hl1))
                  obtain ⟨z1, z2, z3⟩ := add_ok x2 y2 x3 y3
                  obtain ⟨t1, t2, t3⟩ := dif_ok (BP.out _ (List.getElem_mem hlt)) z2 z3
                  obtain ⟨P, hP⟩ : ∃ P, fdiv s l[k] = P := ⟨_, rfl⟩
                  obtain ⟨Q, hQ⟩ : ∃ Q, fdiv s l[k + 1] = Q := ⟨_, rfl⟩
                  obtain ⟨R, hR⟩ : ∃ R, fadd P Q = R := ⟨_, rfl⟩
                  obtain ⟨T, hT⟩ : ∃ T, fsub p[k] R = T := ⟨_, rfl⟩
                  have dk : chDk p l s (k + 1) = chDk p l s k ++ [T] := by
                    rw [chDk_succ, List.getD_eq_getElem?_getD, List.getD_eq_getElem?_getD, List.getD_eq_getElem?_getD, List.getElem?_eq_getElem hlt, List.getElem?_eq_getElem hl0, List.getElem?_eq_getElem hl1]
                    show _ ++ [fsub p[k] (fadd (fdiv s l[k]) (fdiv s l[k + 1]))] = _
                    rw [hP, hQ, hR, hT]
                  have ok_ : chOk l s (k + 1) = chOk l s k ++ [Q] := by
                    rw [chOk_succ, List.getD_eq_getElem?_getD, List.getElem?_eq_getElem hl1]
                    show _ ++ [fdiv s l[k + 1]] = _
                    rw [hQ]
                  rw [hP] at x1
                  rw [hQ] at y1
                  rw [hP, hQ, hR] at z1
                  rw [hP, hQ, hR, hT] at t1
                  have s1 : ∀ t w, (binOp .quo t (.float .f64 s) (.float .f64 l[k])).run Tryd.prog w = .ok (.float .f64 P) w := fun t w => run_float_arith w .quo t .f64 _ _ P x1
                  have s2 : ∀ t w, (binOp .quo t (.float .f64 s) (.float .f64 l[k + 1])).run Tryd.prog w = .ok (.float .f64 Q) w := fun t w => run_float_arith w .quo t .f64 _ _ Q y1
                  have s3 : ∀ t w, (binOp .add t (.float .f64 P) (.float .f64 Q)).run Tryd.prog w = .ok (.float .f64 R) w := fun t w => run_float_arith w .add t .f64 _ _ R z1
                  have s4 : ∀ t w, (binOp .sub t (.float .f64 p[k]) (.float .f64 R)).run Tryd.prog w = .ok (.float .f64 T) w := fun t w => run_float_arith w .sub t .f64 _ _ T t1
                  have j0 : (0 : Int) ≤ (k : Int) := by omega
                  have j1 : (k : Int) < (l.length : Int) := by omega
                  have j2 : (k : Int) + 1 < (l.length : Int) := by omega
                  have j3 : (0 : Int) ≤ (k : Int) + 1 := by omega
                  have j4 : IntKind.i64.wrap ((k : Int) + 1) = (k : Int) + 1 := by rw [IntKind.wrap_i64]; omega
                  have j5 : ((k : Int) + 1).toNat = k + 1 := by omega
                  have DK := Lib.hid dk
                  have OK := Lib.hid ok_
                  have hm : min k (p.length - 1) = k := by omega
                  have hq1 := hq.out
                  rw [hm] at hq1
                  have H2 := Lib.hid hq1
                  clear hm hq1
                  have len1 : Hid (∀ n, (chDk p l s n).length = n) := Lib.hid (fun n => chDk_len p l s n)
                  have len2 : Hid (∀ n, (chOk l s n).length = n) := Lib.hid (fun n => chOk_len l s n)
                  have J4 := Lib.hid j4
                  clear hq hc hc1 hc2 x1 x2 x3 y1 y2 y3 z1 z2 z3 t1 t2 t3 hP hQ hR hT dk ok_
                  go_wp2
                  refine wp_region_G (g := 9) (S := fun w' => w'.cell? ⟨wq.heap.size, 0, none⟩ = some vD ∧ w'.cell? (ad.add k) = some (.float .f64 p[k])) (by kernel_rfl) ?_
                  obtain ⟨wd, hwd⟩ : ∃ v, wr.drew = v := ⟨_, rfl⟩
                  have HD : Hid (HW W wd wq.heap.size vD vO (chDk p l s k) (chOk l s k)) := Lib.hid (by rw [← hwd]; exact H2.out.drew)
                  have hS : wd.cell? ⟨wq.heap.size, 0, none⟩ = some vD ∧ wd.cell? (ad.add k) = some (.float .f64 p[k]) := ⟨kb_cell HD.out.q (i := 0) rfl, by rw [← hwd]; exact m0⟩
                  rw [hwd]
                  clear hwd m0 m1 m2 c0 c1 f0 f1
                  (refine wpG_take (i := 0) (v := ?_) rfl rfl (by kernel_rfl) (by kernel_rfl) (by kernel_rfl) (fun _ _ _ h => h) (Or.inl ⟨by rfl, fun w => ?_⟩) (Or.inr hS) ?_; rotate_left; focus (go_simp; first | done | with_reducible rfl | exact rfl)); (try simp only [Act.put, List.setIfInBounds_toArray, List.set_cons_zero, List.set_cons_succ, List.getElem_toArray, List.getElem_cons_zero, List.getElem_cons_succ])
                  (refine wpG_ldC (i := 1) [9] (v := ?_) rfl rfl (by kernel_rfl) (by kernel_rfl) (by kernel_rfl) (by kernel_rfl) (fun _ _ _ h => h) (Or.inl ⟨by rfl, ?_⟩) hS ?_; rotate_left; focus (intro w hSw; (try dsimp only at hSw); go_simp; first | done | with_reducible rfl | exact rfl)); (try simp only [Act.put, List.setIfInBounds_toArray, List.set_cons_zero, List.set_cons_succ, List.getElem_toArray, List.getElem_cons_zero, List.getElem_cons_succ])
                  (refine wpG_take (i := 2) (v := ?_) rfl rfl (by kernel_rfl) (by kernel_rfl) (by kernel_rfl) (fun _ _ _ h => h) (Or.inl ⟨by rfl, fun w => ?_⟩) (Or.inr hS) ?_; rotate_left; focus (go_simp; first | done | with_reducible rfl | exact rfl)); (try simp only [Act.put, List.setIfInBounds_toArray, List.set_cons_zero, List.set_cons_succ, List.getElem_toArray, List.getElem_cons_zero, List.getElem_cons_succ]); (refine wpG_take (i := 3) (v := ?_) rfl rfl (by kernel_rfl) (by kernel_rfl) (by kernel_rfl) (fun _ _ _ h => h) (Or.inl ⟨by rfl, fun w => ?_⟩) (Or.inr hS) ?_; rotate_left; focus (go_simp; first | done | with_reducible rfl | exact rfl)); (try simp only [Act.put, List.setIfInBounds_toArray, List.set_cons_zero, List.set_cons_succ, List.getElem_toArray, List.getElem_cons_zero, List.getElem_cons_succ]); (refine wpG_take (i := 4) (v := ?_) rfl rfl (by kernel_rfl) (by kernel_rfl) (by kernel_rfl) (fun _ _ _ h => h) (Or.inl ⟨by rfl, fun w => ?_⟩) (Or.inr hS) ?_; rotate_left; focus (go_simp; first | done | with_reducible rfl | exact rfl)); (try simp only [Act.put, List.setIfInBounds_toArray, List.set_cons_zero, List.set_cons_succ, List.getElem_toArray, List.getElem_cons_zero, List.getElem_cons_succ])
                  (refine wpG_ldC (i := 5) [7, 8, 9] (v := ?_) rfl rfl (by kernel_rfl) (by kernel_rfl) (by kernel_rfl) (by kernel_rfl) (fun _ _ _ h => h) (Or.inl ⟨by rfl, ?_⟩) hS ?_; rotate_left; focus (intro w hSw; (try dsimp only at hSw); go_simp; first | done | with_reducible rfl | exact rfl)); (try simp only [Act.put, List.setIfInBounds_toArray, List.set_cons_zero, List.set_cons_succ, List.getElem_toArray, List.getElem_cons_zero, List.getElem_cons_succ])
                  (refine wpG_take (i := 6) (v := ?_) rfl rfl (by kernel_rfl) (by kernel_rfl) (by kernel_rfl) (fun _ _ _ h => h) (Or.inl ⟨by rfl, fun w => ?_⟩) (Or.inr hS) ?_; rotate_left; focus (go_simp; first | done | with_reducible rfl | exact rfl)); (try simp only [Act.put, List.setIfInBounds_toArray, List.set_cons_zero, List.set_cons_succ, List.getElem_toArray, List.getElem_cons_zero, List.getElem_cons_succ]); (refine wpG_take (i := 7) (v := ?_) rfl rfl (by kernel_rfl) (by kernel_rfl) (by kernel_rfl) (fun _ _ _ h => h) (Or.inl ⟨by rfl, fun w => ?_⟩) (Or.inr hS) ?_; rotate_left; focus (go_simp; first | done | with_reducible rfl | exact rfl)); (try simp only [Act.put, List.setIfInBounds_toArray, List.set_cons_zero, List.set_cons_succ, List.getElem_toArray, List.getElem_cons_zero, List.getElem_cons_succ])
                  refine wpG_one (i := 8) (by kernel_rfl) rfl (fun K hK => ?_); have HK := Lib.hid hK; clear hK
                  go_simp
                  refine HK.out _ _ (Or.inr ⟨kb_cellA hS.1 _, kb_cellA hS.2 _⟩) ?_
                  clear HK K
                  (try simp only [Act.put, List.setIfInBounds_toArray, List.set_cons_zero, List.set_cons_succ, List.getElem_toArray, List.getElem_cons_zero, List.getElem_cons_succ])
                  refine wpG_one (i := 9) (by kernel_rfl) rfl (fun K hK => ?_); have HK := Lib.hid hK; clear hK
                  refine step_append_cells (w0 := W) W.heap.size rfl (.tmp 125) (.tmp 132) 22 25 (.float .f64 0) 1 8 rfl Tryd.underlying22 f_info rfl (by decide) (by decide) vD (chDk p l s k).length ((chDk p l s k).map (Value.float .f64)) [.float .f64 T] rfl rfl rfl (fun u hu => by rw [List.mem_singleton.1 hu]; rfl) HD.out.d HD.out.b HD.out.b.size (by rw [len1.out]; omega) ?_
                  intro v1 w1 hown hb hg hat
                  obtain ⟨e1, e2⟩ := HD.out.appD hown hb hg hat
                  obtain ⟨A1, n1, ev, _, _⟩ := ow_sl e2.d
                  rw [List.length_append, len1.out, List.length_singleton] at ev
                  subst ev
                  have H3 := Lib.hid e2
                  have g0 := kb_cell e1 (i := 0) (v := vD) rfl
                  have g2 := kb_frozen e1 0
                  refine HK.out _ _ (Or.inl (by kernel_rfl)) ?_
                  clear HK K hS HD hown hb hg hat e1 e2
                  (try simp only [Act.put, List.setIfInBounds_toArray, List.set_cons_zero, List.set_cons_succ, List.getElem_toArray, List.getElem_cons_zero, List.getElem_cons_succ])
                  (refine wpG_take (i := 10) (v := ?_) rfl rfl (by kernel_rfl) (by kernel_rfl) (by kernel_rfl) (fun _ _ _ h => h) (Or.inl ⟨by rfl, fun w => ?_⟩) (Or.inl (by kernel_rfl)) ?_; rotate_left; focus (go_simp; first | done | with_reducible rfl | exact rfl)); (try simp only [Act.put, List.setIfInBounds_toArray, List.set_cons_zero, List.set_cons_succ, List.getElem_toArray, List.getElem_cons_zero, List.getElem_cons_succ])
                  refine wpG_one (i := 11) (by kernel_rfl) rfl (fun K hK => ?_); have HK := Lib.hid hK; clear hK; go_simp; refine HK.out _ _ (Or.inl (by kernel_rfl)) ?_; clear HK K; (try simp only [Act.put, List.setIfInBounds_toArray, List.set_cons_zero, List.set_cons_succ, List.getElem_toArray, List.getElem_cons_zero, List.getElem_cons_succ])
                  refine wpG_done (by kernel_rfl) ?_ _
                  obtain ⟨w3, hw3⟩ : ∃ v, w1.setCell ⟨wq.heap.size, 0, none⟩ (.slice A1 (k + 1) n1) = v := ⟨_, rfl⟩
                  rw [hw3] at H3
                  simp only [hw3]
                  clear hw3 g0 g2
                  have c1 := kb_cell H3.out.q (i := 1) (v := vO) rfl
                  have f1 := kb_frozen H3.out.q 1
                  by_cases hlast : k + 1 < p.length
                  all_goals
                    have HLA := Lib.hid hlast
                    first
                      | have l2 : decide ((k : Int) + 1 < (p.length : Int)) = true := decide_eq_true (by omega)
                      | have l2 : decide ((k : Int) + 1 < (p.length : Int)) = false := decide_eq_false (by omega)
                    clear hlast
                    go_wp2_with (first
                      | (at_builtin; (refine print_append_cells (w0 := W) W.heap.size rfl (.tmp 140) (.tmp 142) 22 25 (.float .f64 0) 1 8 rfl Tryd.underlying22 f_info rfl (by decide) (by decide) vO (chOk l s k).length ((chOk l s k).map (Value.float .f64)) [.float .f64 Q] rfl rfl rfl (fun u hu => by rw [List.mem_singleton.1 hu]; rfl) H3.out.o H3.out.b H3.out.b.size (by rw [len2.out]; omega) ?_); intro v2 w2 hown hb hg hat
                         obtain ⟨e1, e2⟩ := H3.out.appO hown hb hg hat
                         obtain ⟨A2, n2, ev, _, _⟩ := ow_sl e2.o
                         rw [List.length_append, len2.out, List.length_singleton] at ev
                         subst ev
                         have H4 := Lib.hid e2
                         have g5 := kb_cell e1 (i := 1) (v := vO) rfl
                         have g6 := kb_frozen e1 1
                         clear hown hb hg hat e1 e2))
                    go_roundw
                    case rel =>
                      first
                        | exact ⟨k + 1, _, _, by go_num, by omega, Lib.hid (by rw [show min (k + 1) (p.length - 1) = k + 1 by have := HLA.out; omega, DK.out, OK.out]; exact H4.out)⟩
                        | exact ⟨k + 1, _, vO, by go_num, by omega, Lib.hid (by rw [show min (k + 1) (p.length - 1) = k by have := HLA.out; omega, DK.out]; exact H3.out)⟩
                        | ((repeat apply Exists.intro); exact ⟨⟨k + 1, _, _, by go_num, by omega, Lib.hid (by rw [show min (k + 1) (p.length - 1) = k + 1 by have := HLA.out; omega, DK.out, OK.out]; exact H4.out)⟩, rfl⟩)
                        | ((repeat apply Exists.intro); exact ⟨⟨k + 1, _, vO, by go_num, by omega, Lib.hid (by rw [show min (k + 1) (p.length - 1) = k by have := HLA.out; omega, DK.out]; exact H3.out)⟩, rfl⟩)
                    case measure => simp [intOf]; omega
                · have l1 : decide (k < p.length) = false := decide_eq_false hlt
                  obtain rfl : k = p.length := by omega
                  have hq1 := hq.out
                  rw [show min p.length (p.length - 1) = p.length - 1 by omega] at hq1
                  obtain ⟨AD, nD, eD, _, _⟩ := ow_sl hq1.d
                  obtain ⟨AO, nO, eO, _, _⟩ := ow_sl hq1.o
                  obtain ⟨mD, hmD⟩ : ∃ m, (chDk p l s p.length).length = m := ⟨_, rfl⟩
                  obtain ⟨mO, hmO⟩ : ∃ m, (chOk l s (p.length - 1)).length = m := ⟨_, rfl⟩
                  rw [hmD] at eD
                  rw [hmO] at eO
                  clear hmD hmO
                  subst eD
                  subst eO
                  have c0 := kb_cell hq1.q (i := 0) rfl
                  have c1 := kb_cell hq1.q (i := 1) rfl
                  have b2 := kb_cell hq1.r (i := 0) (v := .slice none 0 0) rfl
                  have b3 := kb_cell hq1.r (i := 1) (v := .slice none 0 0) rfl
                  have b4 := kb_frozen hq1.r 0
                  have b5 := kb_frozen hq1.r 1
                  have z2 := heap_set (heap_set hq1.r 0 (.slice AD mD nD)) 1 (.slice AO mO nO)
                  have Z0 := Lib.hid (kb_cell z2 (i := 0) rfl)
                  have Z1 := Lib.hid (kb_cell z2 (i := 1) rfl)
                  have H2 := Lib.hid hq1
                  clear hq hq1 z2
                  go_wp2
                  refine bodyPost_ret (v := .tuple #[.agg #[.slice AD mD nD, .slice AO mO nO], .int .i64 0]) (by simp [results, Tryd.results24, go_sem, Z0.out, Z1.out]) rfl ?_
                  have far : ∀ v : Value, ∀ L : List Nat, Ow wr W.heap.size v L → Ow ((wr.setCell ⟨W.heap.size, 0, none⟩ (.slice AD mD nD)).setCell ⟨W.heap.size, 1, none⟩ (.slice AO mO nO)) W.heap.size v L := fun v L h => own_move h (fun k hk => by
                    have ne : k ≠ W.heap.size := fun e => own_ne h H2.out.r f_ne (by rw [hk, e])
                    rw [Below.heap_setCell _ _ _ _ ne, Below.heap_setCell _ _ _ _ ne])
                  refine ⟨_, _, by rw [CE.out], ?_, ?_, ((H2.out.b).setCell (p := ⟨W.heap.size, 0, none⟩) (Nat.le_refl _) _).setCell (p := ⟨W.heap.size, 1, none⟩) (Nat.le_refl _) _⟩
                  · unfold chD; rw [if_pos CE.out]; exact far _ _ H2.out.d
                  · unfold chO; rw [if_pos CE.out]; exact far _ _ H2.out.o
theorem chordR_c (A B : Option Addr) (cA cB : Nat) (p l : List Nat) (s : Nat) (W : World) (hp : Fl W A p) (hl : Fl W B l) (wp : ∀ x ∈ p, W64 x) (wl : ∀ x ∈ l, W64 x) (hs : W64 s) :
    Calls Tryd.prog 24 #[.slice A p.length cA, .slice B l.length cB, .float .f64 s] W (ChP W p l s) := by
  cases h : shpB p l
  · exact chordR_no A B cA cB p l s W hp hl h
  · exact chordR_yes A B cA cB p l s W hp hl wp wl hs h
end Go.Proofs.YtfjiojdnbdfenaaDoor


/- girderlaw17.SturmChords. -/
namespace Go.Proofs.YtfjiojdnbdfenaaDoor
open Go Go.RowKit Nv GFl Ieee
open Go.Proofs.YtfjiojdnbdfenaaDoorW.PrintWords (own_move own_ne own_lt own_base)
set_option maxRecDepth 100000
set_option linter.unusedSimpArgs false

theorem Lent.below {w w' : World} {B g : Nat} {l : List Nat} (h : Lent w B g l) (hb : Below w.heap.size w w') : Lent w' B g l := ow_below h hb
theorem Lent.blk {w : World} {B g : Nat} {l : List Nat} (h : Lent w B g l) : ∃ cs, w.heap[g]? = some (.cells cs 25 (0, 0)) ∧ l.length + 12 ≤ cs.size := by
  have h0 := h
  obtain ⟨h1, h2⟩ := h
  rcases h2 with ⟨h2, _⟩ | ⟨g', cap, cur, e, hg, hh, hcur⟩
  · cases h2
  · have e1 : g = g' := by injection e with e; injection e with e; injection e
    subst e1
    refine ⟨cur, hh, ?_⟩
    have f := Lent.ow h0
    have hl : (l ++ mks 12).length = l.length + 12 := by rw [List.length_append, mks_len]
    obtain ⟨ad, ea, hc⟩ := f.at (i := l.length + 11) (by rw [hl]; omega)
    injection ea with ea
    subst ea
    rw [add_blk] at hc
    unfold World.cell? at hc
    simp only [hh] at hc
    have := (Array.getElem?_eq_some_iff.1 hc).1
    omega
/-- The chain that was told, while the lent lists are written over. -/
structure GC (W w : World) (N bc : Nat) (vD vO : Value) (D O : List Nat) : Prop where
  b : Below W.heap.size W w
  n : W.heap.size ≤ N
  k : w.heap[bc]? = some (.cells #[vD, vO] 24 (0, 0))
  l : N ≤ bc
  d : Ow w N vD D
  o : Ow w N vO O
theorem GC.then {W w w' : World} {N bc : Nat} {vD vO : Value} {D O : List Nat} (h : GC W w N bc vD vO D O) (hb : Below w.heap.size w w') : GC W w' N bc vD vO D O := ⟨bl_then h.b hb, h.n, kb_keep hb h.k, h.l, ow_below h.d hb, ow_below h.o hb⟩
theorem GC.over {W w w' : World} {N bc g : Nat} {vD vO : Value} {D O : List Nat} (h : GC W w N bc vD vO D O) (hv : Ov w w' g) (h1 : W.heap.size ≤ g) (h2 : g < N) : GC W w' N bc vD vO D O :=
  ⟨hv.below h.b h1, h.n, (hv.o bc (by have := h.l; omega)).trans h.k, h.l, own_move h.d (fun k hk => hv.o k (by have := own_base h.d k hk; omega)), own_move h.o (fun k hk => hv.o k (by have := own_base h.o k hk; omega))⟩
theorem GC.fl {W w : World} {N bc m m' c c' : Nat} {A B : Option Addr} {D O : List Nat} (h : GC W w N bc (.slice A m c) (.slice B m' c') D O) : Fl w A D ∧ Fl w B O := by
  obtain ⟨A', c1, e, _, f⟩ := ow_sl h.d
  obtain ⟨B', c2, e', _, f'⟩ := ow_sl h.o
  have e1 : A = A' := by injection e
  have e2 : B = B' := by injection e'
  rw [e1, e2]; exact ⟨f, f'⟩
set_option maxHeartbeats 8000000 in
theorem sturmChords_c {W : World} (A : Option Addr) (cA : Nat) (p : List Nat) (B : Option Addr) (cB : Nat) (l : List Nat) (s : Nat) (_hA : p.length ≤ cA) (hp : Fl W A p) (wp : ∀ x ∈ p, W64 x) (nA : A = none → cA = 0 ∧ p = []) (zA : p.length * 8 ≤ 140737488351232) (_hB : l.length ≤ cB) (hl : Fl W B l) (wl : ∀ x ∈ l, W64 x) (nB : B = none → cB = 0 ∧ l = []) (zB : l.length * 8 ≤ 140737488351232) (hs : W64 s) (hT : Tab W) :
    Calls Tryd.prog 4 #[.slice A p.length cA, .slice B l.length cB, .float .f64 s] W fun e w' => e = .returned (.bool true) ∧ Below W.heap.size W w' := by
  have aw : ∀ w, Below W.heap.size W w → Calls Tryd.prog 11 #[] w fun e w' => e = .returned (.bool true) ∧ Below w.heap.size w w' := fun w h => awake_c w (hT.below h)
  have B0 := Lib.hid (Below.refl W.heap.size W)
  have AW := Lib.hid aw
  have LP : Hid (∀ w, Below W.heap.size W w → Calls Tryd.prog 20 #[.slice A p.length cA] w fun e w' => ∃ g, e = .returned (.slice (some ⟨g, 0, none⟩) p.length (p.length + 12)) ∧ w.heap.size ≤ g ∧ Lent w' w.heap.size g p ∧ Below w.heap.size w w') := Lib.hid (fun w h => lent_reals_c A cA p (hp.below h) nA zA)
  have LL : Hid (∀ w, Below W.heap.size W w → Calls Tryd.prog 20 #[.slice B l.length cB] w fun e w' => ∃ g, e = .returned (.slice (some ⟨g, 0, none⟩) l.length (l.length + 12)) ∧ w.heap.size ≤ g ∧ Lent w' w.heap.size g l ∧ Below w.heap.size w w') := Lib.hid (fun w h => lent_reals_c B cB l (hl.below h) nB zB)
  have CR : Hid (∀ w, Below W.heap.size W w → Calls Tryd.prog 24 #[.slice A p.length cA, .slice B l.length cB, .float .f64 s] w (ChP w p l s)) := Lib.hid (fun w h => chordR_c A B cA cB p l s w (hp.below h) (hl.below h) wp wl hs)
  have HP := Lib.hid hp
  have HL := Lib.hid hl
  have WP := Lib.hid wp
  have WL := Lib.hid wl
  have HS := Lib.hid hs
  have ZA := Lib.hid zA
  have ZB := Lib.hid zB
  clear aw hp wp nA zA hl wl nB zB hs hT
  go_enter Tryd.func4, Tryd.ntmps4
  go_upto_region 4 with (first
    | (go_at_call 11; (with_reducible refine (AW.out _ B0.out).mono ?_); rintro e w1 ⟨rfl, hb⟩; have B0 := Lib.hid (bl_then B0.out hb); clear hb)
    | (go_at_call 20; (with_reducible refine (LP.out _ B0.out).mono ?_); rintro e w1 ⟨g1, rfl, hg, hL, hb⟩; have N1 := Lib.hid (Nat.le_trans B0.out.size hg); have H1 := Lib.hid hL; have B0 := Lib.hid (bl_then B0.out hb); have M1 := Lib.hid (own_lt hL g1 rfl); clear hg hL hb)
    | (go_at_call 20; (with_reducible refine (LL.out _ B0.out).mono ?_); rintro e w2 ⟨g2, rfl, hg, hL, hb⟩; have N2 := Lib.hid (Nat.le_trans B0.out.size hg); have N12 := Lib.hid (Nat.lt_of_lt_of_le M1.out hg); have H1 := Lib.hid (H1.out.below hb); have H2 := Lib.hid hL; have B0 := Lib.hid (bl_then B0.out hb); have M2 := Lib.hid (own_lt hL g2 rfl); clear hg hL hb))
  have CS := Lib.hid (chord_c (some ⟨g1, 0, none⟩) (some ⟨g2, 0, none⟩) (p.length + 12) (l.length + 12) p l s w2 H1.out.fl H2.out.fl WP.out WL.out HS.out)
  go_upto_region 5 with (first
    | (go_at_call 21; (with_reducible refine (CS.out).mono ?_); rintro e w3 ⟨vD, vO, rfl, hD, hO, hb⟩; obtain ⟨AD, nD, rfl, _, _⟩ := ow_sl hD; obtain ⟨AO, nO, rfl, _, _⟩ := ow_sl hO; have HD := Lib.hid hD; have HO := Lib.hid hO; have B3 := Lib.hid hb; clear hD hO hb))
  have G0 : Hid (GC W (w3.alloc (.cells #[.slice AD (chD p l s).length nD, .slice AO (chO p l s).length nO] 24)) w2.heap.size w3.heap.size (.slice AD (chD p l s).length nD) (.slice AO (chO p l s).length nO) (chD p l s) (chO p l s)) :=
    Lib.hid ⟨bl_alloc (bl_then B0.out B3.out) _, B0.out.size, kb_new (Below.refl _ _), B3.out.size, ow_below HD.out (bl_alloc (Below.refl _ _) _), ow_below HO.out (bl_alloc (Below.refl _ _) _)⟩
  have H1 := Lib.hid ((H1.out.below B3.out).below (bl_alloc (Below.refl w3.heap.size w3) (.cells #[.slice AD (chD p l s).length nD, .slice AO (chO p l s).length nO] 24)))
  have H2 := Lib.hid ((H2.out.below B3.out).below (bl_alloc (Below.refl w3.heap.size w3) (.cells #[.slice AD (chD p l s).length nD, .slice AO (chO p l s).length nO] 24)))
  have M1 := Lib.hid (Nat.lt_trans N12.out M2.out)
  obtain ⟨w4, hw4⟩ : ∃ w, w3.alloc (.cells #[.slice AD (chD p l s).length nD, .slice AO (chO p l s).length nO] 24) = w := ⟨_, rfl⟩
  obtain ⟨bc, hbc⟩ : ∃ b, w3.heap.size = b := ⟨_, rfl⟩
  obtain ⟨N, hN⟩ : ∃ b, w2.heap.size = b := ⟨_, rfl⟩
  rw [hw4] at G0 H1 H2
  rw [hbc] at G0
  rw [hN] at G0 M1 M2
  simp only [hw4, hbc]
  clear hw4 hbc hN HD HO B3 CS B0
  have K1 : Hid (∀ w, Below w4.heap.size w4 w → Calls Tryd.prog 22 #[.slice (some ⟨g1, 0, none⟩) p.length (p.length + 12), .slice A p.length cA] w fun e w' => e = .returned (.bool true) ∧ ∃ m, w' = w.drewN m) := Lib.hid (fun w h => kept_reals_c g1 A _ cA p w (H1.out.below h).ow (HP.out.below (bl_then G0.out.b h)) rfl WP.out ZA.out)
  have K2 : Hid (∀ w, Below w4.heap.size w4 w → Calls Tryd.prog 22 #[.slice (some ⟨g2, 0, none⟩) l.length (l.length + 12), .slice B l.length cB] w fun e w' => e = .returned (.bool true) ∧ ∃ m, w' = w.drewN m) := Lib.hid (fun w h => kept_reals_c g2 B _ cB l w (H2.out.below h).ow (HL.out.below (bl_then G0.out.b h)) rfl WL.out ZB.out)
  have B4 := Lib.hid (Below.refl w4.heap.size w4)
  go_upto_region 6 with (first
    | (go_at_call 22; (with_reducible (first | refine (K1.out _ B4.out).mono ?_ | refine (K2.out _ B4.out).mono ?_)); rintro e w5 ⟨rfl, m, rfl⟩; have B4 := Lib.hid (bl_drewN B4.out m)))
  have O1 : Hid (∀ w, Below w4.heap.size w4 w → Calls Tryd.prog 23 #[.slice (some ⟨g1, 0, none⟩) p.length (p.length + 12)] w fun e w' => (∃ v, e = .returned v) ∧ Ov w w' g1) := Lib.hid (fun w h => by
    obtain ⟨cs, h1, h2⟩ := (H1.out.below h).blk
    exact over_reals_c g1 p.length _ cs w rfl h1 h2 ZA.out)
  have O2 : Hid (∀ w, (∃ cs, w.heap[g2]? = some (.cells cs 25 (0, 0)) ∧ l.length + 12 ≤ cs.size) → Calls Tryd.prog 23 #[.slice (some ⟨g2, 0, none⟩) l.length (l.length + 12)] w fun e w' => (∃ v, e = .returned v) ∧ Ov w w' g2) := Lib.hid (fun w h => by
    obtain ⟨cs, h1, h2⟩ := h
    exact over_reals_c g2 l.length _ cs w rfl h1 h2 ZB.out)
  go_upto_region 7 with (first
    | (go_at_call 23; (with_reducible refine (O1.out _ (by first | exact B4.out | (rw [← World.drewN_drewN]; exact B4.out))).mono ?_); rintro e w5 ⟨⟨v, rfl⟩, hv⟩; have G1 := Lib.hid ((G0.out.then (by first | exact B4.out | (rw [← World.drewN_drewN]; exact B4.out))).over hv N1.out M1.out); have X2 := Lib.hid (show ∃ cs, w5.heap[g2]? = some (.cells cs 25 (0, 0)) ∧ l.length + 12 ≤ cs.size from (H2.out.below (by first | exact B4.out | (rw [← World.drewN_drewN]; exact B4.out))).blk.imp (fun cs h => ⟨(hv.o g2 (Nat.ne_of_gt N12.out)).trans h.1, h.2⟩)); clear hv))
  go_upto_region 8 with (first
    | (go_at_call 23; (with_reducible refine (O2.out _ X2.out).mono ?_); rintro e w6 ⟨⟨v2, rfl⟩, hv⟩; have G2 := Lib.hid (G1.out.over hv N2.out M2.out); clear hv))
  go_upto_region 9 with (first
    | (go_at_call 24; (with_reducible refine (CR.out _ G2.out.b).mono ?_); rintro e w7 ⟨vD, vO, rfl, hD, hO, hb⟩; obtain ⟨AD', nD', rfl, _, fD⟩ := ow_sl hD; obtain ⟨AO', nO', rfl, _, fO⟩ := ow_sl hO; have FD := Lib.hid fD; have FO := Lib.hid fO; have G3 := Lib.hid (G2.out.then hb); clear hD hO hb fD fO))
  have WD : ∀ x ∈ chD p l s, W64 x := fun x hx => by
    by_cases he : chordE p l s = 0
    · exact ((ch_cf (gd_of WP.out WL.out HS.out he)).1 x hx).w
    · unfold chD at hx; rw [if_neg he] at hx; cases hx
  have WO : ∀ x ∈ chO p l s, W64 x := fun x hx => by
    by_cases he : chordE p l s = 0
    · exact ((ch_cf (gd_of WP.out WL.out HS.out he)).2.1 x hx).w
    · unfold chO at hx; rw [if_neg he] at hx; cases hx
  have G4 := Lib.hid (G3.out.then (bl_alloc (Below.refl w7.heap.size w7) (.cells #[.slice AD' (chD p l s).length nD', .slice AO' (chO p l s).length nO'] 24)))
  have k5 := kb_new (w := w7) (o := .cells #[.slice AD' (chD p l s).length nD', .slice AO' (chO p l s).length nO'] 24) (Below.refl _ _)
  have SC := Lib.hid (same_chain_c AD AO AD' AO' nD nO nD' nO' (chD p l s) (chO p l s) (w7.alloc (.cells #[.slice AD' (chD p l s).length nD', .slice AO' (chO p l s).length nO'] 24)) G4.out.fl.1 (FD.out.below (bl_alloc (Below.refl _ _) _)) G4.out.fl.2 (FO.out.below (bl_alloc (Below.refl _ _) _)) WD WO)
  have c0 := kb_cell G4.out.k (i := 0) rfl
  have c1 := kb_cell G4.out.k (i := 1) rfl
  have c2 := kb_cell k5 (i := 0) rfl
  have c3 := kb_cell k5 (i := 1) rfl
  clear WD WO k5
  go_wp2_with (first
    | (go_at_call 25; (with_reducible refine (SC.out).mono ?_); rintro e w8 ⟨rfl, hb⟩; have G5 := Lib.hid (G4.out.then hb); clear hb))
  go_ret
  exact ⟨by simp, by first | exact G5.out.b | exact bl_drewN G5.out.b _⟩
end Go.Proofs.YtfjiojdnbdfenaaDoor


/- The frame of the rows of this seat: the one listed variable (math/bits' table) as cells; a start that fits. -/
namespace Go.Proofs.YtfjiojdnbdfenaaDoor
open Go Go.ChangeShapes Go.WideShapes Go.RowKit GFl
set_option maxRecDepth 100000

theorem Tryd.own : ownKnob Tryd.prog.godebug = none := by kernel_rfl
theorem w64_of {x : Nat} (h : (Lit.float .f64 x).wf = true) : W64 x := W64.mk (by simpa [Lit.wf] using h)
theorem i64_of {x : Int} (h : (Lit.int .i64 x).wf = true) : -9223372036854775808 ≤ x ∧ x ≤ 9223372036854775807 := by simpa [Lit.wf, IntKind.min, IntKind.max, IntKind.signed, IntKind.bits] using h
theorem no_standIn {ps : Array TypeId} {fn : Func} (h : fn.params = ps) (hall : (ps.toList.all fun t => !Tryd.prog.wantsStandIn t) = true) : ∀ (j : Nat) (t : TypeId), fn.params[j]? = some t → Tryd.prog.wantsStandIn t = false := by
  intro j t ht
  rw [h] at ht
  have hm : t ∈ ps.toList := by rw [Array.mem_toList_iff]; exact Array.mem_of_getElem? ht
  have := List.all_eq_true.1 hall t hm
  simpa using this
def tabZs : List Int := Lib.deBruijn64tab.map fun (n : Nat) => (n : Int)
def laidL : List (String × DataW Unit) := [("math/bits.deBruijn64tab", Rows.laid_math_bits_deBruijn64tab)]
theorem laidL_eq : laidL = ("math/bits.deBruijn64tab", Lib.tabData .u8 tabZs) :: [] := by kernel_rfl
theorem tab_named : Tryd.prog.globalNamed "math/bits.deBruijn64tab" = some 1 := by kernel_rfl
theorem tab_type : (Tryd.prog.globals[1]?).map (·.type) = some 114 := by kernel_rfl
theorem tab_of_laid {W : World} (h : laidMet Tryd.prog laidL W) : Tab W := by
  rw [laidL_eq] at h
  have ht := Lib.tabIs_of_head tab_named tab_type Tryd.underlying114 Tryd.underlying5 (by kernel_rfl) (by kernel_rfl) h
  intro j hj
  have hc := ht.cell tab_named j (by simpa [tabZs] using hj)
  rw [hc]
  congr 2
  simp [tabZs, List.getD, hj]

def tabCells : Array Value := (tabZs.map fun z => Value.int .u8 z).toArray
noncomputable def laidWorld (os : Os) : World :=
  { World.holding Tryd.prog os ⟨#[], #[], []⟩ with heap := (World.holding Tryd.prog os ⟨#[], #[], []⟩).heap.modify 1 fun
      | .cells _ t frozen => .cells tabCells t frozen
      | o => o }
theorem laidWorld_row (os : Os) (args : Array Value) : ((laidWorld os).forCall (fun _ _ => 0) ⟨#[], args, []⟩).memory.heap[1]? = some (.cells tabCells 114 (0, 0)) := by kernel_rfl
theorem tab_places : ((MemPlace.row ⟨1, 0, none⟩ tabCells.size ++ ([] : List MemPlace) ++ []).Nodup) := by decide
theorem laidWorld_met (os : Os) (args : Array Value) : laidMet Tryd.prog laidL ((laidWorld os).forCall (fun _ _ => 0) ⟨#[], args, []⟩).memory := by
  refine ⟨_, ⟨1, 114, tabCells, 8, [], [], by kernel_rfl, by kernel_rfl, by kernel_rfl, by kernel_rfl, rfl, rfl⟩, tab_places, fun b off h => ?_⟩
  have h' : MemPlace.cell b off ∈ (MemPlace.row ⟨1, 0, none⟩ tabCells.size : List MemPlace) := by simpa using h
  have hall : (MemPlace.row ⟨1, 0, none⟩ tabCells.size : List MemPlace).all (fun p => match p with | .cell b _ => b == 1 | _ => false) = true := by decide
  have hb := List.all_eq_true.1 hall _ h'
  obtain rfl : b = 1 := by simpa using hb
  refine ⟨⟨_, _, laidWorld_row os args⟩, fun u v hc => ?_⟩
  exfalso
  simp only [World.cell?, laidWorld_row os args] at hc
  have hc' : tabCells[off]? = some (.iface u v) := by simpa using hc
  unfold tabCells at hc'
  simp at hc'
end Go.Proofs.YtfjiojdnbdfenaaDoor


/- Lists of floats, chains and lists of small numbers as arguments of a row: opened. -/
namespace Go.Proofs.YtfjiojdnbdfenaaDoor
open Go Go.ChangeShapes Go.WideShapes Go.RowKit Go.Deep GFl
open Go.Proofs.YtfjiojdnbdfenaaDoorW.PrintWords (Kd)
set_option maxRecDepth 100000

theorem jk_laidOut : laidOutB Tryd.prog = true := by kernel_rfl
theorem rs_rec1 : Tryd.prog.readableRec 22 = true := by kernel_rfl
theorem rs_row1 : (22 : TypeId) < Tryd.prog.types.size := of_decide_eq_true (by kernel_rfl)
theorem rs_rec2 : Tryd.prog.readableRec 24 = true := by kernel_rfl
theorem rs_row2 : (24 : TypeId) < Tryd.prog.types.size := of_decide_eq_true (by kernel_rfl)
theorem rs_cf : Tryd.prog.cellsOf 25 = 1 := by kernel_rfl
theorem rs_cc : Tryd.prog.cellsOf 24 = 2 := by kernel_rfl
theorem rs_cs : Tryd.prog.cellsOf 22 = 1 := by kernel_rfl
theorem list_of {α : Type} {p : Nat → α → Prop} : ∀ n, (∀ i, i < n → ∃ j, p i j) → ∃ l : List α, l.length = n ∧ ∀ i j, l[i]? = some j → p i j
  | 0, _ => ⟨[], rfl, fun i j h => by simp at h⟩
  | n + 1, h => by
    obtain ⟨l, hl, hp⟩ := list_of n (fun i hi => h i (by omega))
    obtain ⟨j, hj⟩ := h n (by omega)
    refine ⟨l ++ [j], by simp [hl], fun i x hx => ?_⟩
    rcases Nat.lt_or_ge i l.length with hi | hi
    · rw [List.getElem?_append_left hi] at hx; exact hp i x hx
    · rw [List.getElem?_append_right hi] at hx
      have e : i - l.length = 0 := by
        have := (List.getElem?_eq_some_iff.1 hx).1
        simp at this; omega
      rw [e] at hx
      have : x = j := by simpa using hx.symm
      subst this
      have : i = n := by omega
      subst this; exact hj
section
variable {H : Type} {enc : TypeId × Value → H} {P : Program} {w : World} {base : Nat} {spare : Nat → Bool} {held : Bool}
theorem trod_flt {k : FloatKind} {t : TypeId} {fuel : Nat} {cs : List Value} {x : DataW H × List MemPlace} (ht : P.underlying t = some (.float k)) (h : DataW.trod enc P w base spare held fuel t cs = some x) : ∃ n, cs = [.float k n] ∧ (Lit.float k n).wf = true := by
  cases fuel with
  | zero => simp [DataW.trod] at h
  | succ n =>
    unfold DataW.trod at h
    rw [ht] at h
    split at h <;> simp_all
end
section
variable {H : Type} {enc : TypeId × Value → H} {w : World} {base : Nat} {spare : Nat → Bool} {held : Bool}
theorem open_fls {fuel : Nat} {c : Value} {x : DataW H × List MemPlace} (h : DataW.trod enc Tryd.prog w base spare held fuel 22 [c] = some x) :
    ∃ (A : Option Addr) (cap : Nat) (l : List Nat), c = .slice A l.length cap ∧ l.length ≤ cap ∧ Fl w A l ∧ (∀ y ∈ l, W64 y) ∧ (A = none → cap = 0 ∧ l = []) := by
  rcases open_slice1 Tryd.underlying22 rs_cf h with ⟨hc, _⟩ | ⟨ad, len, cap, m, n, V, D, Pl, hc, hb, hl, hm, hmm, _, hi⟩
  · have hc : c = .slice none 0 0 := by simpa using hc
    subst hc
    exact ⟨none, 0, [], rfl, Nat.le_refl _, Fl.mk (by simp) (fun h => by simp at h), fun y hy => (by cases hy), fun _ => ⟨rfl, rfl⟩⟩
  · have hc : c = .slice (some ad) len cap := by simpa using hc
    subst hc
    have hlm : len ≤ m := by rw [hmm]; split <;> omega
    obtain ⟨l, hll, hp⟩ := list_of (p := fun i y => w.cell? (ad.add i) = some (.float .f64 y) ∧ W64 y) len (fun i hil => by
      obtain ⟨hc, ht⟩ := hi i (by omega)
      obtain ⟨y, he, hw⟩ := trod_flt Tryd.underlying25 ht
      have he : V i = .float .f64 y := by simpa using he
      exact ⟨y, by rw [hc, he], w64_of hw⟩)
    subst hll
    have hmx : cap ≤ 9223372036854775807 := hm
    refine ⟨some ad, cap, l, rfl, hl, Fl.mk (by omega) (fun _ => ⟨ad, rfl, fun i hi => (hp i _ (List.getElem?_eq_getElem hi)).1⟩), fun y hy => ?_, fun h => by cases h⟩
    obtain ⟨i, hi1, rfl⟩ := List.getElem_of_mem hy
    exact (hp i _ (List.getElem?_eq_getElem hi1)).2
theorem open_reals {r : Reach} {b0 : Nat} {v : Value} {d : DataW H} {p : List MemPlace} (hv : Value.okWide Tryd.prog w r b0 22 v) (h : DataW.Trod enc Tryd.prog w base spare held 22 v d p) :
    ∃ (A : Option Addr) (cap : Nat) (l : List Nat), v = .slice A l.length cap ∧ l.length ≤ cap ∧ Fl w A l ∧ (∀ y ∈ l, W64 y) ∧ (A = none → cap = 0 ∧ l = []) := by
  obtain ⟨a, len, cap, rfl⟩ := okWide_slice Tryd.underlying22 hv
  obtain ⟨fuel, hf⟩ := h
  exact open_fls hf
theorem open_chain {r : Reach} {b0 : Nat} {v : Value} {d : DataW H} {p : List MemPlace} (hv : Value.okWide Tryd.prog w r b0 24 v) (h : DataW.Trod enc Tryd.prog w base spare held 24 v d p) :
    ∃ (A B : Option Addr) (cA cB : Nat) (l m : List Nat), v = .agg #[.slice A l.length cA, .slice B m.length cB] ∧ l.length ≤ cA ∧ m.length ≤ cB ∧ Fl w A l ∧ Fl w B m ∧ (∀ y ∈ l, W64 y) ∧ (∀ y ∈ m, W64 y) ∧ (A = none → cA = 0 ∧ l = []) ∧ (B = none → cB = 0 ∧ m = []) := by
  obtain ⟨cs, rfl, _⟩ := okWide_struct Tryd.underlying24 hv
  obtain ⟨fuel, h⟩ := h
  obtain ⟨xs, n, _, hx, hlen, hxl, hf⟩ := DataW.trod_struct Tryd.underlying24 h
  rw [rs_cc] at hlen
  obtain ⟨cs⟩ := cs
  change cs.length = 2 at hlen
  match cs, hlen with
  | [c0, c1], _ =>
    have h0 := hf 0 _ rfl
    have h1 := hf 1 _ rfl
    have hs : xs.length = 2 := hxl
    have g0 : DataW.trod enc Tryd.prog w base spare held n 22 [c0] = xs[0]? := h0
    have g1 : DataW.trod enc Tryd.prog w base spare held n 22 [c1] = xs[1]? := h1
    rw [List.getElem?_eq_getElem (by omega)] at g0 g1
    obtain ⟨A, cA, l, rfl, j1, j2, j3, j4⟩ := open_fls g0
    obtain ⟨B, cB, m, rfl, k1, k2, k3, k4⟩ := open_fls g1
    exact ⟨A, B, cA, cB, l, m, rfl, j1, k1, j2, k2, j3, k3, j4, k4⟩
end
end Go.Proofs.YtfjiojdnbdfenaaDoor


/- Lists of floats as arguments of a row, with their size. -/
namespace Go.Proofs.YtfjiojdnbdfenaaDoor
open Go Go.ChangeShapes Go.WideShapes Go.RowKit Go.Deep GFl
set_option maxRecDepth 100000

theorem rl_bytes : Tryd.prog.bytesOf 25 = 8 := by kernel_rfl
section
variable {H : Type} {enc : TypeId × Value → H} {w : World} {base : Nat} {spare : Nat → Bool} {held : Bool}
theorem open_lreals {r : Reach} {b0 : Nat} {v : Value} {d : DataW H} {p : List MemPlace} (hv : Value.okWide Tryd.prog w r b0 22 v) (h : DataW.Trod enc Tryd.prog w base spare held 22 v d p) :
    ∃ (A : Option Addr) (cap : Nat) (l : List Nat), v = .slice A l.length cap ∧ l.length ≤ cap ∧ Fl w A l ∧ (∀ y ∈ l, W64 y) ∧ (A = none → cap = 0 ∧ l = []) ∧ (l = [] ∨ ∃ E S : List (DataW H), d = .slice E S ∧ E.length = l.length) := by
  have h' := h
  obtain ⟨A, c, l, rfl, hl, hC, hw, hN⟩ := open_reals hv h
  obtain ⟨fuel, hf⟩ := h'
  refine ⟨A, c, l, rfl, hl, hC, hw, hN, ?_⟩
  rcases open_slice Tryd.underlying22 hf with ⟨hcs, _⟩ | ⟨ad, n, cap, m, k, D, Pl, hcs, hb, hle, hm, hmm, hx, hi⟩
  · simp [Value.cells] at hcs
    obtain ⟨_, h0, _⟩ := hcs
    exact Or.inl h0
  · simp [Value.cells] at hcs
    obtain ⟨_, hn, _⟩ := hcs
    refine Or.inr ⟨_, _, congrArg Prod.fst hx, ?_⟩
    simp [hn]
theorem lreal_size {ts : List TypeId} {ds : List (DataW H)} {j : Nat} {d : DataW H} {l : List Nat} (hD : l = [] ∨ ∃ E S : List (DataW H), d = .slice E S ∧ E.length = l.length) (hsz : (DataW.weightsEach Tryd.prog ts ds).all (· ≤ reachBytes) = true) (ht : ts[j]? = some 22) (hd : ds[j]? = some d) : l.length * 8 ≤ 140737488351232 := by
  rcases hD with rfl | ⟨E, S, rfl, hE⟩
  · simp
  · have := sized_slice hsz ht hd Tryd.underlying22
    rw [rl_bytes] at this
    simp only [reachBytes] at this
    omega
end
end Go.Proofs.YtfjiojdnbdfenaaDoor


/- girder/girderlaw17.SturmChords answers true for every input, and leaves each argument as it was: the table of math/bits is tied to the program's text.
 Conditions: none of its own. -/
namespace Go.Proofs.YtfjiojdnbdfenaaDoor
open Go Go.ChangeShapes Go.WideShapes Go.RowKit GFl

set_option maxRecDepth 100000 in
theorem sturmChords_lifted (os : Os) (started : os.Started) (H : Type) (enc : TypeId × Value → H) :
    ReturnsInHanded {} Tryd.checked os 4 .any (fun w args => (Rows.sturmChordsSpec.pre enc Tryd.prog Tryd.f4 [] false w args ∧ laidMet Tryd.prog laidL w) ∧ sizedMet enc Tryd.prog Tryd.f4 (OpenSpec.ofChange Rows.sturmChordsSpec) false w args) (Rows.sturmChordsSpec.post enc Tryd.prog Tryd.f4 false true false false) := by
  refine returnsInHanded_of_change_and (C := Tryd.checked) (X := fun w _ => laidMet Tryd.prog laidL w) (fun _ _ _ hh h => h.of_heap hh) Tryd.own started (by kernel_rfl) Tryd.func4
    (ChangeSpec.witness_at (enc := enc) (C := Tryd.checked) (os := os) (X := fun w _ => laidMet Tryd.prog laidL w) false (laidWorld os) #[.slice none 0 0, .slice none 0 0, .float .f64 0] 8 rfl (by kernel_rfl) (by kernel_rfl) (by kernel_rfl) (by kernel_rfl) (by kernel_rfl) (laidWorld_met os _)) ?_
  intro W base args ds gs before hval0 hW _ hsz hL _
  have hval : ∀ (j : Nat) t v, Tryd.f4.params[j]? = some t → args[j]? = some v → Value.okWide Tryd.prog W .any base t v := hval0
  have hW' := hW
  obtain ⟨p, q, hA0, hV0, rfl, hfz, hnd⟩ := hW
  have hA : DataW.TrodAll enc Tryd.prog W 0 (fun _ => true) true Tryd.f4.params.toList args.toList ds p := hA0
  have hV : DataW.TrodVars enc Tryd.prog W (fun _ => true) [] gs q := hV0
  rw [Tryd.params4] at hA hval
  obtain ⟨v0, v1, v2, d0, d1, d2, p0, p1, p2, rfl, rfl, rfl, h0, h1, h2⟩ := trodAll_three hA
  have k0 := h0
  have lt0 : ∀ x ∈ p0, x.block < W.heap.size := by obtain ⟨m, hm⟩ := h0; exact DataW.trod_lt m _ _ _ hm
  obtain ⟨A0, c0, l0, rfl, hl0, hC0, wl0, hN0, hD0⟩ := open_lreals (hval 0 22 v0 rfl rfl) h0
  have k1 := h1
  have lt1 : ∀ x ∈ p1, x.block < W.heap.size := by obtain ⟨m, hm⟩ := h1; exact DataW.trod_lt m _ _ _ hm
  obtain ⟨A1, c1, l1, rfl, hl1, hC1, wl1, hN1, hD1⟩ := open_lreals (hval 1 22 v1 rfl rfl) h1
  obtain ⟨x2, rfl, rfl, rfl, wx2⟩ := open_float Tryd.underlying25 (hval 2 25 v2 rfl rfl) h2
  obtain ⟨rfl, rfl⟩ : gs = [] ∧ q = [] := by
    cases gs with
    | nil => exact ⟨rfl, hV⟩
    | cons g r => exact absurd hV (by intro h; cases h)
  have e1 : Rows.sturmChordsSpec.fn H ([d0, d1, .lit (.float .f64 x2)] ++ []) = { results := [.lit (.bool true)], args := [d0, d1, .lit (.float .f64 x2)] } := by simp [Rows.sturmChordsSpec]
  refine (sturmChords_c (W := W) A0 c0 l0 A1 c1 l1 x2 hl0 hC0 wl0 hN0 (lreal_size (j:=0) hD0 hsz rfl rfl) hl1 hC1 wl1 hN1 (lreal_size (j:=1) hD1 hsz rfl rfl) (w64_of wx2) (tab_of_laid hL)).mono fun e W' ⟨he, hb⟩ => ?_
  subst he
  refine ⟨_, rfl, _, _, _, [], p0 ++ (p1 ++ ([])), [], hW', ?_, ?_, ?_, hb.frame _, fun h => by cases h⟩
  · rw [e1]; exact trodAll_mk1 (shut_bool Tryd.underlying4 true)
  · rw [e1]; exact trodAll_mk3 (Below.trod jk_laidOut rs_rec1 rs_row1 k0 hb lt0) (Below.trod jk_laidOut rs_rec1 rs_row1 k1 hb lt1) (shut_float Tryd.underlying25 wx2)
  · rw [e1]; rfl

theorem sturmChords_holds : Rows.SturmChordsSaid :=
  OpenClaim.holds_of_wide 4 Tryd.f4 rfl rfl rfl rfl rfl rfl rfl ⟨rfl, rfl, rfl, rfl, rfl⟩ rfl rfl rfl rfl rfl (by kernel_rfl) Tryd.func4 (by kernel_rfl)
    (of_decide_eq_true (by kernel_rfl)) (by unfold Func.isWrapper; rw [if_neg (of_decide_eq_false (by kernel_rfl))]; exact ⟨rfl, rfl⟩)
    (fun os started H enc _ => sturmChords_lifted os started H enc)

theorem sturmChords_card_holds : Rows.SturmChordsCardSaid :=
  Claim7.holds_tied_plain_at .later [] [.data] true Rows.sturmChordsCard.stood.harness false
    sturmChords_holds (fun _ h => by cases h) (by kernel_rfl) (fun _ h => by cases h) sturmChords_row_tie rfl ⟨rfl, rfl⟩ (by kernel_rfl) rfl
    (fun f fn hf hfn => by
      obtain rfl : f = 4 := Option.some.inj ((show Tryd.prog.funcNamed "girder/girderlaw17.SturmChords" = some 4 by kernel_rfl).symm.trans hf) |>.symm
      obtain rfl : fn = Tryd.f4 := (Option.some.inj (Tryd.func4.symm.trans hfn)).symm
      exact ⟨by kernel_rfl, no_standIn Tryd.params4 (by kernel_rfl)⟩)
    (by kernel_rfl)
#print axioms sturmChords_card_holds
end Go.Proofs.YtfjiojdnbdfenaaDoor

