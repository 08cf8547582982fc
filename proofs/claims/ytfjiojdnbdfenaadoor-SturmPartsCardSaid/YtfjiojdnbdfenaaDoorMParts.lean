import Derived.Test.YtfjiojdnbdfenaaDoorMe
import Derived.Test.YtfjiojdnbdfenaaDoorMf
import Derived.Test.YtfjiojdnbdfenaaDoorMb
import Derived.Deep.RegionHeld3
import Derived.Deep.DeepCutAuto
import Derived.Deep.CutBlock
import Derived.BigQuiet
import Derived.Test.YtfjiojdnbdfenaaDoorMc
import Derived.ProofKit
import Derived.Lib.LaidTab
import Derived.SevenTiedAt
import Derived.JoinedOf
import Derived.ChangeSame
import Derived.ChangeVars
import Derived.Test.YtfjiojdnbdfenaaDoorMd
import Derived.Deep.Slices
import Derived.Deep.Fields
import Derived.Carry
import Derived.Test.YtfjiojdnbdfenaaDoorCards
import Derived.Test.YtfjiojdnbdfenaaDoorTie
/- What Find answers stands between the counts (plain). -/
namespace Go.Proofs.YtfjiojdnbdfenaaDoor
open Go Nv GFl
set_option maxRecDepth 100000


theorem atW_p {p : Int} (h1 : -6867989431740006400 ≤ p) (h2 : p ≤ 6867989431740006400) : plc (atW p) = p ∧ isn (atW p) = false ∧ placeF (atW p) = p := by
  obtain ⟨e1, e2, e3⟩ := atW_r h1 h2
  have hn : neg (atW p) = decide (p < 0) := by unfold atW; exact wd_neg (by omega)
  have h3 : plc (atW p) = p := by rw [plc_eq, hn, e1]; simp only [decide_eq_true_eq]; split <;> omega
  have h4 : isn (atW p) = false := by rw [isn_eq]; simp; omega
  refine ⟨h3, h4, ?_⟩
  unfold placeF
  rw [h4, h3]; rfl
theorem val_mono {x y : Nat} (h : plc x ≤ plc y) : val x ≤ val y := by
  rw [plc_eq, plc_eq] at h
  rw [val_eq', val_eq']
  have m1 : rg x ≤ rg y → mg B52 (rg x) ≤ mg B52 (rg y) := fun h => mg_mono B52_pos h
  have m2 : rg y ≤ rg x → mg B52 (rg y) ≤ mg B52 (rg x) := fun h => mg_mono B52_pos h
  have z1 : rg x = 0 → mg B52 (rg x) = 0 := fun h => by rw [h]; exact mg_zero _ B52_pos
  have z2 : rg y = 0 → mg B52 (rg y) = 0 := fun h => by rw [h]; exact mg_zero _ B52_pos
  generalize mg B52 (rg x) = a at *
  generalize mg B52 (rg y) = b at *
  cases hx : neg x <;> cases hy : neg y <;> simp only [hx, hy, if_true, if_false, Bool.false_eq_true] at h ⊢ <;> omega
theorem hlv_inv (T : Int → Bool) : ∀ (n : Nat) (a b : Int), a < b → b - a ≤ 2 ^ n → T a = false → T b = true → a ≤ (hlv T n a b).1 ∧ (hlv T n a b).2 = (hlv T n a b).1 + 1 ∧ (hlv T n a b).2 ≤ b ∧ T (hlv T n a b).1 = false ∧ T (hlv T n a b).2 = true := by
  intro n
  induction n with
  | zero =>
    intro a b h1 h2 ha hb
    simp at h2
    obtain rfl : b = a + 1 := by omega
    exact ⟨Int.le_refl _, rfl, Int.le_refl _, ha, hb⟩
  | succ n ih =>
    intro a b h1 h2 ha hb
    rw [Int.pow_succ] at h2
    generalize hp : (2 : Int) ^ n = p at *
    unfold hlv
    by_cases hg : 1 < b - a
    · rw [if_pos hg]
      cases hm : T (a + (b - a) / 2)
      · rw [if_neg (by simp)]
        have := ih (a + (b - a) / 2) b (by omega) (by omega) hm hb
        exact ⟨by omega, this.2.1, this.2.2.1, this.2.2.2⟩
      · rw [if_pos rfl]
        have := ih a (a + (b - a) / 2) (by omega) (by omega) ha hm
        exact ⟨this.1, this.2.1, by omega, this.2.2.2⟩
    · rw [if_neg hg]
      obtain rfl : b = a + 1 := by omega
      exact ⟨Int.le_refl _, rfl, Int.le_refl _, ha, hb⟩
theorem two64 : (2 : Int) ^ 64 = 18446744073709551616 := by decide
theorem val_cf {x : Nat} (h : rg x ≤ 6858982232485265408) : -(p2 1574 : Int) ≤ val x ∧ val x ≤ (p2 1574 : Int) := by
  have h1 := mg_mono (B := B52) B52_pos h
  rw [mg500] at h1
  have := natAbs_val x
  generalize mg B52 (rg x) = m at *
  generalize p2 1574 = q at *
  omega
theorem p2_pos (n : Nat) : 0 < p2 n := by rw [p2_def]; exact Nat.two_pow_pos n
theorem p2_1576 : p2 1576 = 4 * p2 1574 := by rw [show 1576 = 1574 + 1 + 1 from rfl, p2_suc, p2_suc]; omega
theorem mg_top : mg B52 6867989431740006400 = p2 1576 := by
  have : (6867989431740006400 : Nat) = 1525 * B52 + 0 := by decide
  rw [this, mg_B 1525 0 (by decide) (by decide)]
  have e : B52 + 0 = p2 52 := by rw [p2_def]
  rw [e, ← p2_add]
theorem val_top : val (atW 6867989431740006400) = (4 * (p2 1574 : Int)) ∧ val (atW (-6867989431740006400)) = -(4 * (p2 1574 : Int)) := by
  have e1 : atW 6867989431740006400 = wd false 6867989431740006400 := by decide
  have e2 : atW (-6867989431740006400) = wd true 6867989431740006400 := by decide
  rw [e1, e2, val_wd (by decide), val_wd (by decide), mg_top, p2_1576]
  simp
theorem cnt_ends {d o : List Nat} (hr : rightB d o = true) : St.cnt (val (atW (-6867989431740006400))) (d.map val) (o.map val) = 0 ∧ St.cnt (val (atW 6867989431740006400)) (d.map val) (o.map val) = (d.length : Int) := by
  obtain ⟨r1, r2, r3, r4, r5⟩ := rightB_d hr
  have hM : (0 : Int) < (p2 1574 : Int) := by have := p2_pos 1574; omega
  have hd : ∀ a ∈ d.map val, -(p2 1574 : Int) ≤ a ∧ a ≤ (p2 1574 : Int) := fun a ha => by
    obtain ⟨x, hx, rfl⟩ := List.mem_map.1 ha
    exact val_cf (r4 x hx)
  have ho : ∀ a ∈ o.map val, -(p2 1574 : Int) ≤ a ∧ a ≤ (p2 1574 : Int) := fun a ha => by
    obtain ⟨x, hx, rfl⟩ := List.mem_map.1 ha
    exact val_cf (r5 x hx)
  refine ⟨St.cnt_none hM hd ho ?_, ?_⟩
  · rw [val_top.2]; exact Int.le_refl _
  · have := St.cnt_all hM hd ho (x := val (atW 6867989431740006400)) (by rw [val_top.1]; exact Int.le_refl _)
    rw [this, List.length_map]
theorem over_mono {d o : List Nat} {k p q : Int} (hp : -6867989431740006400 ≤ p) (hpq : p ≤ q) (hq : q ≤ 6867989431740006400) (h : over d o k p = true) : over d o k q = true := by
  unfold over at *
  have h := of_decide_eq_true h
  have := St.cnt_mono (val_mono (x := atW p) (y := atW q) (by rw [(atW_p hp (by omega)).1, (atW_p (by omega) hq).1]; exact hpq)) (d.map val) (o.map val)
  exact decide_eq_true (by omega)
theorem find_good {d o : List Nat} {k : Int} (hr : rightB d o = true) (h0 : 0 ≤ k) (h1 : k < d.length) : ∃ P : Int, findE d o k = 0 ∧ findL d o k = atW P ∧ findH d o k = atW (P + 1) ∧ -6867989431740006400 ≤ P ∧ P + 1 ≤ 6867989431740006400 ∧ over d o k P = false ∧ over d o k (P + 1) = true := by
  have he : findE d o k = 0 := by unfold findE; rw [if_pos hr, if_neg (by omega), if_neg (by omega)]
  obtain ⟨c1, c2⟩ := cnt_ends hr
  have lo : over d o k (-6867989431740006400) = false := by unfold over; rw [c1]; exact decide_eq_false (by omega)
  have hi : over d o k 6867989431740006400 = true := by unfold over; rw [c2]; exact decide_eq_true (by omega)
  have el : findL d o k = atW (findP d o k).1 := if_pos he
  have eh : findH d o k = atW (findP d o k).2 := if_pos he
  have key : -6867989431740006400 ≤ (findP d o k).1 ∧ (findP d o k).2 = (findP d o k).1 + 1 ∧ (findP d o k).2 ≤ 6867989431740006400 ∧ over d o k (findP d o k).1 = false ∧ over d o k (findP d o k).2 = true := by
    unfold findP
    cases hz : over d o k 0
    · rw [if_neg (by simp)]
      have := hlv_inv (over d o k) 64 0 6867989431740006400 (by decide) (by rw [two64]; decide) hz hi
      exact ⟨Int.le_trans (by decide) this.1, this.2.1, this.2.2.1, this.2.2.2⟩
    · rw [if_pos rfl]
      have := hlv_inv (over d o k) 64 (-6867989431740006400) 0 (by decide) (by rw [two64]; decide) lo hz
      exact ⟨this.1, this.2.1, Int.le_trans this.2.2.1 (by decide), this.2.2.2⟩
  refine ⟨(findP d o k).1, he, el, ?_, key.1, ?_, key.2.2.2.1, ?_⟩
  · rw [eh, key.2.1]
  · rw [← key.2.1]; exact key.2.2.1
  · rw [← key.2.1]; exact key.2.2.2.2
/-- The next eigenvalue's is no less. -/
theorem find_next {d o : List Nat} {k P Q : Int} (hP : -6867989431740006400 ≤ P) (hP2 : P + 1 ≤ 6867989431740006400) (hQ : -6867989431740006400 ≤ Q) (hQ2 : Q + 1 ≤ 6867989431740006400) (h1 : over d o k P = false) (h2 : over d o (k + 1) (Q + 1) = true) : P ≤ Q := by
  rcases (by omega : Q < P ∨ P ≤ Q) with h | h
  · have h3 : over d o k (Q + 1) = true := by unfold over at *; have := of_decide_eq_true h2; exact decide_eq_true (by omega)
    have := over_mono (by omega) (by omega : Q + 1 ≤ P) (by omega) h3
    rw [h1] at this; cases this
  · exact h
/-- What is found is counted. -/
theorem found {d o : List Nat} {p : Int} (hr : rightB d o = true) (h1 : -6867989431740006400 ≤ p) (h2 : p ≤ 6867989431740006400) : wrongE d o (atW p) = 0 ∧ exactN d o (atW p) = St.cnt (val (atW p)) (d.map val) (o.map val) := by
  have e := (atW_r h1 h2).1
  have hw : wrongE d o (atW p) = 0 := by unfold wrongE; rw [if_pos hr, if_neg (by omega), if_neg (by omega)]
  exact ⟨hw, if_pos hw⟩
end Go.Proofs.YtfjiojdnbdfenaaDoor


/- girderkit.Pick. -/
namespace Go.Proofs.YtfjiojdnbdfenaaDoor
open Go Go.RowKit Nv GFl
set_option maxRecDepth 100000
set_option linter.unusedSimpArgs false

theorem pick_e (x n : Int) (h1 : 1 ≤ n) (h2 : n ≤ 100) : ∃ K : Int, 0 ≤ K ∧ K < n ∧ ∀ W : World, Calls Tryd.prog 30 #[.int .i64 x, .int .i64 n] W fun e w' => e = .returned (.int .i64 K) ∧ W = w' := by
  have k1 : decide (n < 1) = false := decide_eq_false (by omega)
  have k2 : n ≠ 0 := by omega
  have m1 := Int.tmod_lt_of_pos x (show (0 : Int) < n by omega)
  have m2 : -n < x.tmod n := by
    have := Int.lt_tmod_of_pos x (show (0 : Int) < n by omega)
    omega
  have e1 : IntKind.i64.wrap (x.tmod n) = x.tmod n := by rw [IntKind.wrap_i64]; omega
  obtain ⟨m, hm⟩ : ∃ m, x.tmod n = m := ⟨_, rfl⟩
  rw [hm] at e1 m1 m2
  by_cases hn : m < 0
  · have k3 : decide (m < 0) = true := decide_eq_true hn
    refine ⟨m + n, by omega, by omega, fun W => ?_⟩
    go_enter Tryd.func30, Tryd.ntmps30
    go_wp2
    go_ret
    exact ⟨ret_int (by omega), rfl⟩
  · have k3 : decide (m < 0) = false := decide_eq_false hn
    refine ⟨m, by omega, by omega, fun W => ?_⟩
    go_enter Tryd.func30, Tryd.ntmps30
    go_wp2
    go_ret
    exact ⟨ret_int (by omega), rfl⟩
end Go.Proofs.YtfjiojdnbdfenaaDoor


/- girderlaw17.SturmBetween. -/
namespace Go.Proofs.YtfjiojdnbdfenaaDoor
open Go Go.RowKit Nv GFl
set_option maxRecDepth 100000
set_option linter.unusedSimpArgs false

/-- A world with the chain laid out. -/
structure CB (W w : World) (u v : Value) : Prop where
  b : Below W.heap.size W w
  r : w.heap[W.heap.size]? = some (.cells #[u, v] 24 (0, 0))
theorem CB.start (W : World) (u v : Value) : CB W (W.alloc (.cells #[u, v] 24)) u v := ⟨bl_alloc (Below.refl _ _) _, kb_new (Below.refl _ _)⟩
theorem CB.then {W w w' : World} {u v : Value} (h : CB W w u v) (hb : Below w.heap.size w w') : CB W w' u v := ⟨bl_then h.b hb, kb_keep hb h.r⟩
theorem CB.drewN {W w : World} {u v : Value} (h : CB W w u v) (n : Nat) : CB W (w.drewN n) u v := ⟨bl_drewN h.b n, h.r⟩
theorem CB.drew {W w : World} {u v : Value} (h : CB W w u v) : CB W w.drew u v := ⟨bl_drew h.b, h.r⟩
theorem ge_of {P Q : Int} (hP : -6867989431740006400 ≤ P) (hP2 : P ≤ 6867989431740006400) (hQ : -6867989431740006400 ≤ Q) (hQ2 : Q ≤ 6867989431740006400) (h : P ≤ Q) : (FloatKind.f64.format.order (atW Q) (atW P) == some .gt || FloatKind.f64.format.order (atW Q) (atW P) == some .eq) = true := by
  rw [t_ge (atW_r hQ hQ2).2.1 (atW_r hP hP2).2.1, (atW_p hP hP2).1, (atW_p hQ hQ2).1, (atW_p hP hP2).2.1, (atW_p hQ hQ2).2.1]
  simp [h]
/-- What the law asks, laid out: K the number, P the place, a and b the counts. -/
structure BF (A B : Option Addr) (cA cB : Nat) (d o : List Nat) (W : World) (K P a b : Int) : Prop where
  f : ∀ w, Below W.heap.size W w → Calls Tryd.prog 31 #[.agg #[.slice A d.length cA, .slice B o.length cB], .int .i64 K] w fun e w' => e = .returned (.tuple #[.float .f64 (atW P), .float .f64 (atW (P + 1)), .int .i64 0]) ∧ Below w.heap.size w w'
  e1 : ∀ w, Below W.heap.size W w → Calls Tryd.prog 15 #[.agg #[.slice A d.length cA, .slice B o.length cB], .float .f64 (atW P)] w fun e w' => e = .returned (.tuple #[.int .i64 a, .int .i64 0]) ∧ Below w.heap.size w w'
  e2 : ∀ w, Below W.heap.size W w → Calls Tryd.prog 15 #[.agg #[.slice A d.length cA, .slice B o.length cB], .float .f64 (atW (P + 1))] w fun e w' => e = .returned (.tuple #[.int .i64 b, .int .i64 0]) ∧ Below w.heap.size w w'
  p1 : ∀ w, Calls Tryd.prog 32 #[.float .f64 (atW P)] w fun e w' => e = .returned (.tuple #[.int .i64 P, .bool true]) ∧ w' = w
  p2 : ∀ w, Calls Tryd.prog 32 #[.float .f64 (atW (P + 1))] w fun e w' => e = .returned (.tuple #[.int .i64 (P + 1), .bool true]) ∧ w' = w
  ak : a ≤ K
  kb : K < b
  h1 : -6867989431740006400 ≤ P
  h2 : P + 1 ≤ 6867989431740006400
set_option maxHeartbeats 1000000 in
theorem bf_of {W : World} (A B : Option Addr) (cA cB : Nat) (d o : List Nat) (hA : d.length ≤ cA) (hB : o.length ≤ cB) (hd : Fl W A d) (ho : Fl W B o) (wd : ∀ x ∈ d, W64 x) (wo : ∀ x ∈ o, W64 x) (hT : Tab W) (hr : rightB d o = true) (K : Int) (h0 : 0 ≤ K) (h1 : K < d.length) :
    ∃ P a b, BF A B cA cB d o W K P a b ∧ over d o K P = false := by
  obtain ⟨P, g1, g2, g3, g4, g5, g6, g7⟩ := find_good hr h0 h1
  obtain ⟨u1, u2⟩ := found (d := d) (o := o) (p := P) hr g4 (by omega)
  obtain ⟨v1, v2⟩ := found (d := d) (o := o) (p := P + 1) hr (by omega) g5
  have q1 := atW_p (p := P) g4 (by omega)
  have q2 := atW_p (p := P + 1) (by omega) g5
  refine ⟨P, exactN d o (atW P), exactN d o (atW (P + 1)), ⟨fun w h => ?_, fun w h => ?_, fun w h => ?_, fun w => ?_, fun w => ?_, ?_, ?_, g4, g5⟩, g6⟩
  · have := find_c A B cA cB d o K w (hd.below h) (ho.below h) hA hB wd wo (hT.below h)
    rw [g1, g2, g3] at this
    exact this
  · have := exact_c A B cA cB d o (atW P) w (hd.below h) (ho.below h) hA hB wd wo (atW_r g4 (by omega)).2.1 (hT.below h)
    rw [u1] at this
    exact this
  · have := exact_c A B cA cB d o (atW (P + 1)) w (hd.below h) (ho.below h) hA hB wd wo (atW_r (by omega) g5).2.1 (hT.below h)
    rw [v1] at this
    exact this
  · have := place_c (atW P) (atW_r g4 (by omega)).2.1 w
    rw [q1.2.2, q1.2.1] at this
    exact this
  · have := place_c (atW (P + 1)) (atW_r (by omega) g5).2.1 w
    rw [q2.2.2, q2.2.1] at this
    exact this
  · rw [u2]; exact Int.not_lt.1 (of_decide_eq_false g6)
  · rw [v2]; exact of_decide_eq_true g7
set_option maxHeartbeats 4000000 in
theorem sturmBetween_no {W : World} (A B : Option Addr) (cA cB : Nat) (d o : List Nat) (k : Int) (hd : Fl W A d) (ho : Fl W B o) (wd : ∀ x ∈ d, W64 x) (wo : ∀ x ∈ o, W64 x) (hT : Tab W) (h : d.length = 0 ∨ 8 < d.length ∨ rightB d o = false) :
    Calls Tryd.prog 9 #[.agg #[.slice A d.length cA, .slice B o.length cB], .int .i64 k] W fun e w' => e = .returned (.bool true) ∧ Below W.heap.size W w' := by
  have aw : ∀ w, Below W.heap.size W w → Calls Tryd.prog 11 #[] w fun e w' => e = .returned (.bool true) ∧ Below w.heap.size w w' := fun w h => awake_c w (hT.below h)
  have rc : ∀ w, Below W.heap.size W w → Calls Tryd.prog 13 #[.agg #[.slice A d.length cA, .slice B o.length cB]] w fun e w' => e = .returned (.bool (rightB d o)) ∧ Below w.heap.size w w' := fun w h => right_c A B cA cB d o w (hd.below h) (ho.below h) wd wo
  have C0 := Lib.hid (CB.start W (.slice A d.length cA) (.slice B o.length cB))
  have AW := Lib.hid aw
  have RC := Lib.hid rc
  have H := Lib.hid h
  obtain ⟨r, hr⟩ : ∃ r, rightB d o = r := ⟨_, rfl⟩
  rw [hr] at RC H
  clear h hd ho wd wo hT aw rc hr
  by_cases k0 : d.length = 0
  · have k1 : ((d.length : Int) == 0) = true := by simpa using k0
    clear k0
    go_enter Tryd.func9, Tryd.ntmps9
    go_wp2_with (first
      | (go_at_call 11; (with_reducible refine (AW.out _ C0.out.b).mono ?_); rintro e w1 ⟨rfl, hb⟩; have c := CB.then C0.out hb; have cc0 := kb_cell c.r (i := 0) rfl; have cc1 := kb_cell c.r (i := 1) rfl; have C0 := Lib.hid c; clear c hb))
    go_ret
    exact ⟨rfl, by first | exact C0.out.b | exact bl_drewN C0.out.b _⟩
  · have k1 : ((d.length : Int) == 0) = false := by simpa using k0
    by_cases h8 : 8 < d.length
    · have k2 : decide (8 < (d.length : Int)) = true := decide_eq_true (by omega)
      clear k0 h8
      go_enter Tryd.func9, Tryd.ntmps9
      go_wp2_with (first
        | (go_at_call 11; (with_reducible refine (AW.out _ C0.out.b).mono ?_); rintro e w1 ⟨rfl, hb⟩; have c := CB.then C0.out hb; have cc0 := kb_cell c.r (i := 0) rfl; have cc1 := kb_cell c.r (i := 1) rfl; have C0 := Lib.hid c; clear c hb))
      go_ret
      exact ⟨rfl, by first | exact C0.out.b | exact bl_drewN C0.out.b _⟩
    · have k2 : decide (8 < (d.length : Int)) = false := decide_eq_false (by omega)
      have k3 : r = false := by rcases H.out with h | h | h; exact absurd h k0; exact absurd h h8; exact h
      subst k3
      clear k0 h8
      go_enter Tryd.func9, Tryd.ntmps9
      go_wp2_with (first
        | (go_at_call 11; (with_reducible refine (AW.out _ C0.out.b).mono ?_); rintro e w1 ⟨rfl, hb⟩; have c := CB.then C0.out hb; have cc0 := kb_cell c.r (i := 0) rfl; have cc1 := kb_cell c.r (i := 1) rfl; have C0 := Lib.hid c; clear c hb)
        | (go_at_call 13; (with_reducible refine (RC.out _ C0.out.b).mono ?_); rintro e w2 ⟨rfl, hb⟩; have c := CB.then C0.out hb; have cc0 := kb_cell c.r (i := 0) rfl; have cc1 := kb_cell c.r (i := 1) rfl; have C0 := Lib.hid c; clear c hb))
      go_ret
      exact ⟨rfl, by first | exact C0.out.b | exact bl_drewN C0.out.b _⟩
set_option maxHeartbeats 8000000 in
theorem sturmBetween_yes {W : World} (A B : Option Addr) (cA cB : Nat) (d o : List Nat) (k : Int) (hA : d.length ≤ cA) (hB : o.length ≤ cB) (hd : Fl W A d) (ho : Fl W B o) (wd : ∀ x ∈ d, W64 x) (wo : ∀ x ∈ o, W64 x) (hT : Tab W) (h0 : d.length ≠ 0) (h8 : d.length ≤ 8) (hr : rightB d o = true) :
    Calls Tryd.prog 9 #[.agg #[.slice A d.length cA, .slice B o.length cB], .int .i64 k] W fun e w' => e = .returned (.bool true) ∧ Below W.heap.size W w' := by
  have aw : ∀ w, Below W.heap.size W w → Calls Tryd.prog 11 #[] w fun e w' => e = .returned (.bool true) ∧ Below w.heap.size w w' := fun w h => awake_c w (hT.below h)
  have rc : ∀ w, Below W.heap.size W w → Calls Tryd.prog 13 #[.agg #[.slice A d.length cA, .slice B o.length cB]] w fun e w' => e = .returned (.bool (rightB d o)) ∧ Below w.heap.size w w' := fun w h => right_c A B cA cB d o w (hd.below h) (ho.below h) wd wo
  have C0 := Lib.hid (CB.start W (.slice A d.length cA) (.slice B o.length cB))
  obtain ⟨K, hK0, hK1, pk⟩ := pick_e k d.length (by omega) (by omega)
  obtain ⟨P, a, b, F, hov⟩ := bf_of A B cA cB d o hA hB hd ho wd wo hT hr K hK0 hK1
  have fn : ∃ (x y : Nat) (E : Int), (∀ w, Below W.heap.size W w → Calls Tryd.prog 31 #[.agg #[.slice A d.length cA, .slice B o.length cB], .int .i64 (K + 1)] w fun e w' => e = .returned (.tuple #[.float .f64 x, .float .f64 y, .int .i64 E]) ∧ Below w.heap.size w w') ∧
      ((K + 1 == (d.length : Int)) = true ∧ E = 270 ∧ x = 0 ∨ (K + 1 == (d.length : Int)) = false ∧ E = 0 ∧ (FloatKind.f64.format.order x (atW P) == some .gt || FloatKind.f64.format.order x (atW P) == some .eq) = true) := by
    by_cases hl : K + 1 = (d.length : Int)
    · have he : findE d o (K + 1) = 270 := by unfold findE; rw [if_pos hr, if_neg (by omega), if_pos (by omega)]
      have hx : findL d o (K + 1) = 0 := if_neg (by rw [he]; decide)
      refine ⟨findL d o (K + 1), findH d o (K + 1), findE d o (K + 1), fun w h => find_c A B cA cB d o (K + 1) w (hd.below h) (ho.below h) hA hB wd wo (hT.below h), Or.inl ⟨by simpa using hl, he, hx⟩⟩
    · obtain ⟨Q, a', b', F', hov'⟩ := bf_of A B cA cB d o hA hB hd ho wd wo hT hr (K + 1) (by omega) (by omega)
      obtain ⟨Q', g1, g2, g3, g4, g5, g6, g7⟩ := find_good hr (show 0 ≤ K + 1 by omega) (show K + 1 < d.length by omega)
      refine ⟨findL d o (K + 1), findH d o (K + 1), findE d o (K + 1), fun w h => find_c A B cA cB d o (K + 1) w (hd.below h) (ho.below h) hA hB wd wo (hT.below h), Or.inr ⟨by simpa using hl, g1, ?_⟩⟩
      rw [g2]
      exact ge_of F.h1 (by have := F.h2; omega) g4 (by omega) (find_next F.h1 F.h2 g4 g5 hov g7)
  obtain ⟨x, y, E, nx, hE⟩ := fn
  have k1 : ((d.length : Int) == 0) = false := by simpa using h0
  have k2 : decide (8 < (d.length : Int)) = false := decide_eq_false (by omega)
  have k3 : decide (K < a) = false := decide_eq_false (by have := F.ak; omega)
  have k4 : decide (b ≤ K) = false := decide_eq_false (by have := F.kb; omega)
  have ep : wrap64 (P + 1) = P + 1 := by have h1 := F.h1; have h2 := F.h2; unfold wrap64; omega
  have ek : wrap64 (K + 1) = K + 1 := by unfold wrap64; omega
  rw [hr] at rc
  have AW := Lib.hid aw
  have RC := Lib.hid rc
  have PK := Lib.hid pk
  have FF := Lib.hid F.f
  have E1 := Lib.hid F.e1
  have E2 := Lib.hid F.e2
  have P1 := Lib.hid F.p1
  have P2 := Lib.hid F.p2
  have NX := Lib.hid nx
  clear nx F pk rc aw hov h0 h8 hr hd ho hA hB wd wo hT hK0 hK1
  have z0 : (FloatKind.f64.format.order 0 0 == some .eq) = true := by decide
  rcases hE with ⟨t1, rfl, rfl⟩ | ⟨t1, rfl, t2⟩
  all_goals
    go_enter Tryd.func9, Tryd.ntmps9
    go_wp2_with (first
      | (go_at_call 11; (with_reducible refine (AW.out _ C0.out.b).mono ?_); rintro e w1 ⟨rfl, hb⟩; have c := CB.then C0.out hb; have cc0 := kb_cell c.r (i := 0) rfl; have cc1 := kb_cell c.r (i := 1) rfl; have C0 := Lib.hid c; clear c hb)
      | (go_at_call 13; (with_reducible refine (RC.out _ C0.out.b).mono ?_); rintro e w2 ⟨rfl, hb⟩; have c := CB.then C0.out hb; have cc0 := kb_cell c.r (i := 0) rfl; have cc1 := kb_cell c.r (i := 1) rfl; have C0 := Lib.hid c; clear c hb)
      | (go_at_call 30; (with_reducible refine (PK.out _).mono ?_); rintro e w' ⟨rfl, hw⟩; obtain rfl := hw.symm; clear hw)
      | (go_at_call 31; (with_reducible refine (FF.out _ C0.out.b).mono ?_); rintro e w3 ⟨rfl, hb⟩; have c := CB.then C0.out hb; have cc0 := kb_cell c.r (i := 0) rfl; have cc1 := kb_cell c.r (i := 1) rfl; have C0 := Lib.hid c; clear c hb)
      | (go_at_call 31; (with_reducible refine (NX.out _ C0.out.b).mono ?_); rintro e w3 ⟨rfl, hb⟩; have c := CB.then C0.out hb; have cc0 := kb_cell c.r (i := 0) rfl; have cc1 := kb_cell c.r (i := 1) rfl; have C0 := Lib.hid c; clear c hb)
      | (go_at_call 15; (with_reducible refine (E1.out _ C0.out.b).mono ?_); rintro e w3 ⟨rfl, hb⟩; have c := CB.then C0.out hb; have cc0 := kb_cell c.r (i := 0) rfl; have cc1 := kb_cell c.r (i := 1) rfl; have C0 := Lib.hid c; clear c hb)
      | (go_at_call 15; (with_reducible refine (E2.out _ C0.out.b).mono ?_); rintro e w3 ⟨rfl, hb⟩; have c := CB.then C0.out hb; have cc0 := kb_cell c.r (i := 0) rfl; have cc1 := kb_cell c.r (i := 1) rfl; have C0 := Lib.hid c; clear c hb)
      | (go_at_call 32; (with_reducible refine (P1.out _).mono ?_); rintro e w' ⟨rfl, hw⟩; obtain rfl := hw.symm; clear hw)
      | (go_at_call 32; (with_reducible refine (P2.out _).mono ?_); rintro e w' ⟨rfl, hw⟩; obtain rfl := hw.symm; clear hw))
    go_ret
    exact ⟨rfl, by first | exact C0.out.b | exact bl_drewN C0.out.b _⟩
theorem sturmBetween_c {W : World} (A B : Option Addr) (cA cB : Nat) (d o : List Nat) (k : Int) (hA : d.length ≤ cA) (hB : o.length ≤ cB) (hd : Fl W A d) (ho : Fl W B o) (wd : ∀ x ∈ d, W64 x) (wo : ∀ x ∈ o, W64 x) (_ : -9223372036854775808 ≤ k) (_ : k ≤ 9223372036854775807) (hT : Tab W) :
    Calls Tryd.prog 9 #[.agg #[.slice A d.length cA, .slice B o.length cB], .int .i64 k] W fun e w' => e = .returned (.bool true) ∧ Below W.heap.size W w' := by
  by_cases h : d.length = 0 ∨ 8 < d.length ∨ rightB d o = false
  · exact sturmBetween_no A B cA cB d o k hd ho wd wo hT h
  · refine sturmBetween_yes A B cA cB d o k hA hB hd ho wd wo hT (fun h0 => h (Or.inl h0)) ?_ ?_
    · rcases Nat.lt_or_ge 8 d.length with h8 | h8
      · exact absurd (Or.inr (Or.inl h8)) h
      · exact h8
    · cases hr : rightB d o
      · exact absurd (Or.inr (Or.inr hr)) h
      · rfl
end Go.Proofs.YtfjiojdnbdfenaaDoor


/- What Least answers of a chord (plain). -/
namespace Go.Proofs.YtfjiojdnbdfenaaDoor
open Go Nv GFl Ieee
set_option maxRecDepth 100000

theorem zeroW : W64 0 := w_const (by decide)
theorem val0 : val 0 = 0 := by decide
/-- A good chord: counted at 0. -/
theorem ch_right {p l : List Nat} {s : Nat} (h : Gd p l s) : rightB (chD p l s) (chO p l s) = true ∧ wrongE (chD p l s) (chO p l s) 0 = 0 ∧ exactN (chD p l s) (chO p l s) 0 = St.cnt 0 ((chD p l s).map val) ((chO p l s).map val) := by
  obtain ⟨h1, h2, h3, h4⟩ := ch_cf h
  have hn := h.n
  have hr : rightB (chD p l s) (chO p l s) = true := by
    unfold rightB okF
    simp only [Bool.and_eq_true, decide_eq_true_eq, List.all_eq_true]
    exact ⟨⟨by omega, by omega, by omega⟩, fun x hx => (h1 x hx).r, fun x hx => (h2 x hx).r⟩
  have hw : wrongE (chD p l s) (chO p l s) 0 = 0 := by
    unfold wrongE
    rw [if_pos hr, if_neg (by decide), if_neg (by decide)]
  refine ⟨hr, hw, ?_⟩
  unfold exactN
  rw [if_pos hw, val0]
theorem gv_n {p l : List Nat} {s : Nat} (h : Gd p l s) : (gvB p l s = false → exactN (chD p l s) (chO p l s) 0 = 0) ∧ (gvB p l s = true → 0 < exactN (chD p l s) (chO p l s) 0) := by
  rw [(ch_right h).2.2]
  have := (St.cnt_range 0 ((chD p l s).map val) ((chO p l s).map val)).1
  unfold gvB
  exact ⟨fun h => by have := of_decide_eq_false h; omega, fun h => of_decide_eq_true h⟩
theorem ps0 : Ps 0 := ⟨zeroW, by decide, by decide⟩
theorem ps_r2 {s : Nat} (h : Ps s) : 0 ≤ plc s ∧ plc s ≤ 4877398396442247168 := by have := h.hi; rw [h.pos]; omega
/-- Least's answer. -/
theorem least_good {p l : List Nat} {s : Nat} (h : Gd p l s) (hg : gvB p l s = true) : ∃ P : Int, leastE p l s = 0 ∧ leastL p l s = atW P ∧ leastH p l s = atW (P + 1) ∧ 0 ≤ P ∧ P + 1 ≤ plc s ∧ gvB p l (atW P) = false ∧ gvB p l (atW (P + 1)) = true := by
  have he : leastE p l s = 0 := by unfold leastE; rw [if_pos (gd_mk h), if_pos hg]
  have hr := ps_r2 h.s
  have h0 : rg s ≠ 0 := fun h0 => by rw [gv_zero h h0] at hg; cases hg
  have hn : neg s = false := by
    have := h.s.pos
    rw [plc_eq] at this
    cases hn : neg s
    · rfl
    · rw [hn] at this; simp only [if_true] at this; omega
  have es : atW (plc s) = s := by
    unfold atW
    rw [plc_eq, hn]
    have e : decide ((if false = true then -(rg s : Int) else (rg s : Int)) < 0) = false := by simp
    rw [e]
    have e2 : (if false = true then -(rg s : Int) else (rg s : Int)).natAbs = rg s := by simp
    rw [e2, ← hn]
    exact (w64_wd h.s.w).symm
  have lo : gvB p l (atW 0) = false := gv_zero (h.push (by rw [show atW 0 = 0 by decide]; exact ps0)) (by decide)
  have hi : gvB p l (atW (plc s)) = true := by rw [es]; exact hg
  have hpos : 0 < plc s := by rw [h.s.pos]; omega
  have key := hlv_inv (fun q => gvB p l (atW q)) 64 0 (plc s) hpos (by rw [two64]; omega) lo hi
  have el : leastL p l s = atW (leastP p l s).1 := if_pos he
  have eh : leastH p l s = atW (leastP p l s).2 := if_pos he
  have key : 0 ≤ (leastP p l s).1 ∧ (leastP p l s).2 = (leastP p l s).1 + 1 ∧ (leastP p l s).2 ≤ plc s ∧ gvB p l (atW (leastP p l s).1) = false ∧ gvB p l (atW (leastP p l s).2) = true := key
  refine ⟨(leastP p l s).1, he, el, ?_, key.1, ?_, key.2.2.2.1, ?_⟩
  · rw [eh, key.2.1]
  · rw [← key.2.1]; exact key.2.2.1
  · rw [← key.2.1]; exact key.2.2.2.2
/-- The sign of a difference. -/
theorem dif_neg {x y : Nat} (hx : W64 x) (hy : W64 y) (fx : rg x < 9218868437227405312) (fy : rg y < 9218868437227405312) : decide (val (fsub x y) < 0) = decide (plc x < plc y) := by
  obtain ⟨r, hr, e⟩ := sub64 hx hy fx fy
  have lt : val x < val y ↔ plc x < plc y := sv_lt_iff
  rw [fsub_of e, val_wd (by have := Nat.min_le_right r 9218868437227405312; omega)]
  have pos : val x - val y ≠ 0 → 0 < mg B52 (min r 9218868437227405312) := fun h => by
    have : r ≠ 0 := fun h0 => by
      subst h0
      have := hr.up
      rw [mg_zero _ B52_pos, mg_small (by decide)] at this
      omega
    exact Nat.lt_of_lt_of_le (by omega) (le_mg B52 _ B52_pos)
  rw [Bool.eq_iff_iff, decide_eq_true_eq, decide_eq_true_eq, ← lt]
  by_cases h0 : val x - val y = 0
  · have hr' : IsRn B52 (val x - val y).natAbs 1 r := hr
    rw [h0] at hr'
    have h1 : ¬ val x < val y := by omega
    have r0 : r = 0 := hr'.unique B52_pos (by decide) (IsRn.zero B52_pos (by decide))
    rw [r0, Nat.zero_min, mg_zero _ B52_pos]
    constructor
    · intro h2; split at h2 <;> simp at h2
    · intro h2; exact absurd h2 h1
  · have hm := pos h0
    generalize mg B52 (min r 9218868437227405312) = m at *
    rw [if_neg h0]
    by_cases h1 : val x - val y < 0
    · rw [decide_eq_true h1]; simp only [if_true]; omega
    · rw [decide_eq_false h1]; simp only [Bool.false_eq_true, if_false]; omega
/-- One prop. -/
theorem one_prop {p l : List Nat} {s : Nat} (h : Gd p l s) (h1 : p.length = 1) : ∃ (i0 : 0 < p.length) (j0 : 0 < l.length) (j1 : 1 < l.length), double.div s l[0] = some (fdiv s l[0]) ∧ double.div s l[1] = some (fdiv s l[1]) ∧ double.add (fdiv s l[0]) (fdiv s l[1]) = some (fadd (fdiv s l[0]) (fdiv s l[1])) ∧
    (exactN (chD p l s) (chO p l s) 0 == 1) = (double.order p[0] (fadd (fdiv s l[0]) (fdiv s l[1])) == some .lt) := by
  have hn := h.n
  refine ⟨by omega, by omega, by omega, ?_⟩
  have j0 : 0 < l.length := by omega
  have j1 : 1 < l.length := by omega
  have i0 : 0 < p.length := by omega
  obtain ⟨x1, x2, x3, _⟩ := quo_ok h.s (h.l _ (List.getElem_mem j0))
  obtain ⟨y1, y2, y3, _⟩ := quo_ok h.s (h.l _ (List.getElem_mem j1))
  obtain ⟨z1, z2, z3⟩ := add_ok x2 y2 x3 y3
  obtain ⟨t1, t2, t3⟩ := dif_ok (h.p _ (List.getElem_mem i0)) z2 z3
  have hp := h.p _ (List.getElem_mem i0)
  refine ⟨x1, y1, z1, ?_⟩
  have eD : chD p l s = [fsub p[0] (fadd (fdiv s l[0]) (fdiv s l[1]))] := by
    unfold chD chDk
    rw [if_pos (gd_mk h), h1]
    simp only [List.range_one, List.map_cons, List.map_nil, List.getD_eq_getElem?_getD, List.getElem?_eq_getElem i0, List.getElem?_eq_getElem j0, List.getElem?_eq_getElem (show 0 + 1 < l.length from j1), Option.getD_some]
  have eO : chO p l s = [] := by
    unfold chO chOk
    rw [if_pos (gd_mk h), h1]; rfl
  have fz : rg (fadd (fdiv s l[0]) (fdiv s l[1])) < 9218868437227405312 := Nat.lt_of_le_of_lt z3 (by decide)
  have fp : rg p[0] < 9218868437227405312 := by have := hp.hi; omega
  rw [(ch_right h).2.2, eD, eO, o_lt hp.w z2.w, z2.isn, show isn p[0] = false by rw [isn_eq]; simp; omega, ← dif_neg hp.w z2.w fp fz]
  have e := St.cnt_zeros 0 [val (fsub p[0] (fadd (fdiv s l[0]) (fdiv s l[1])))] [] (fun y hy => by cases hy)
  show (St.cnt 0 [val (fsub p[0] (fadd (fdiv s l[0]) (fdiv s l[1])))] [] == 1) = _
  rw [e]
  generalize val (fsub p[0] (fadd (fdiv s l[0]) (fdiv s l[1]))) = v
  by_cases hv : v < 0 <;> simp [hv]
end Go.Proofs.YtfjiojdnbdfenaaDoor


/- girderlaw17.SturmParts. -/
namespace Go.Proofs.YtfjiojdnbdfenaaDoor
open Go Go.RowKit Nv GFl Ieee
open Go.Proofs.YtfjiojdnbdfenaaDoorW.PrintWords (Kd print_append_row_of)
set_option maxRecDepth 100000
set_option linter.unusedSimpArgs false

theorem copy_c (A : Option Addr) (c : Nat) (l : List Nat) (W : World) (hl : Fl W A l) (hn : l.length ≤ 1000) :
    Calls Tryd.prog 29 #[.slice A l.length c] W fun e w' => ∃ v, e = .returned v ∧ Ow w' W.heap.size v l ∧ Below W.heap.size W w' := by
  go_enter Tryd.func29, Tryd.ntmps29
  go_wp2_with (first
    | (at_builtin; (refine print_append_row_of (w0 := W) (Value.float .f64) 0 W.heap.size rfl (.tmp 4) (.tmp 5) 22 25 (.float .f64 0) 8 rfl Tryd.underlying22 f_info rfl (by decide) (fun _ => rfl) (.slice none 0 0) [] l A l.length c rfl rfl (World.ownsRow_nil _ _ _ _) (Kd.reads_of_C hl) (Below.refl _ _) (Nat.le_refl _) (by simp; omega) ?_); intro v1 w1 hown hb hg hat))
  exact bodyPost_ret (v := v1) (by simp [results, Tryd.results29, go_sem]) rfl ⟨v1, rfl, by simpa [Go.Proofs.YtfjiojdnbdfenaaDoorW.PrintWords.encs] using hown, hb⟩
/-- The numbers below x. -/
def blw (D : List Nat) (x : Nat) : Int := ((D.filter fun a => decide (plc a < plc x)).length : Nat)
theorem blw_exact {D : List Nat} {x : Nat} (h : wrongE D (List.replicate (D.length - 1) 0) x = 0) : exactN D (List.replicate (D.length - 1) 0) x = blw D x := by
  unfold exactN
  rw [if_pos h, St.cnt_zeros]
  · unfold blw
    rw [List.filter_map, List.length_map]
    have e : ((fun a : Int => decide (a < val x)) ∘ val) = fun a => decide (plc a < plc x) := by
      funext a
      have : val a < val x ↔ plc a < plc x := sv_lt_iff
      simp [this]
    rw [e]
  · intro y hy
    obtain ⟨z, hz, rfl⟩ := List.mem_map.1 hy
    rw [List.eq_of_mem_replicate hz]; decide
/-- What couples, as the law takes it. -/
def offOk (y : Nat) : Bool := decide (rg y < 9218868437227405312) && decide (plc y < 6103021453049119613) && decide (-6103021453049119613 < plc y)
def offAt (q : List Nat) (i : Nat) : Nat := if i < q.length ∧ offOk (q.getD i 0) = true then q.getD i 0 else 4607182418800017408
def offs (q : List Nat) (n : Nat) : List Nat := (List.range n).map (offAt q)
theorem offs_len (q : List Nat) (n : Nat) : (offs q n).length = n := by unfold offs; simp
theorem offs_succ (q : List Nat) (n : Nat) : offs q (n + 1) = offs q n ++ [offAt q n] := by unfold offs; rw [List.range_succ, List.map_append]; rfl
theorem offAt_ok (q : List Nat) (wq : ∀ x ∈ q, W64 x) (i : Nat) : Cf (offAt q i) := by
  unfold offAt
  split
  · rename_i h
    obtain ⟨h1, h2⟩ := h
    rw [List.getD_eq_getElem?_getD, List.getElem?_eq_getElem h1, Option.getD_some] at h2 ⊢
    unfold offOk at h2
    simp only [Bool.and_eq_true, decide_eq_true_eq] at h2
    have := plc_natAbs q[i]
    exact ⟨wq _ (List.getElem_mem h1), by omega⟩
  · exact ⟨w_const (by decide), by decide⟩
theorem right_of {D O : List Nat} {x : Nat} (h1 : 1 ≤ D.length) (h2 : D.length ≤ 64) (h3 : O.length + 1 = D.length) (hd : ∀ y ∈ D, rg y ≤ 6858982232485265408) (ho : ∀ y ∈ O, rg y ≤ 6858982232485265408) (hx : rg x ≤ 6867989431740006400) :
    wrongE D O x = 0 ∧ exactN D O x = St.cnt (val x) (D.map val) (O.map val) := by
  have hr : rightB D O = true := by
    unfold rightB okF
    simp only [Bool.and_eq_true, decide_eq_true_eq, List.all_eq_true]
    exact ⟨⟨h1, h2, h3⟩, hd, ho⟩
  have hw : wrongE D O x = 0 := by unfold wrongE; rw [if_pos hr, if_neg (by omega), if_neg (by omega)]
  exact ⟨hw, if_pos hw⟩
/-- A chain that is parted by a 0. -/
theorem parted {D O : List Nat} {x t : Nat} (h1 : 1 ≤ t) (h2 : t < D.length) (h64 : D.length ≤ 64) (h3 : O.length + 1 = D.length) (hd : ∀ y ∈ D, rg y ≤ 6858982232485265408) (ho : ∀ y ∈ O, rg y ≤ 6858982232485265408) (hx : rg x ≤ 6867989431740006400) :
    wrongE D (O.set (t - 1) 0) x = 0 ∧ wrongE (D.take t) ((O.set (t - 1) 0).take (t - 1)) x = 0 ∧ wrongE (D.drop t) ((O.set (t - 1) 0).drop t) x = 0 ∧
    exactN D (O.set (t - 1) 0) x = exactN (D.take t) ((O.set (t - 1) 0).take (t - 1)) x + exactN (D.drop t) ((O.set (t - 1) 0).drop t) x := by
  have hs : ∀ y ∈ O.set (t - 1) 0, rg y ≤ 6858982232485265408 := fun y hy => by
    rcases List.mem_or_eq_of_mem_set hy with hy | rfl
    · exact ho y hy
    · decide
  obtain ⟨a1, a2⟩ := right_of (D := D) (O := O.set (t - 1) 0) (x := x) (by omega) h64 (by simpa using h3) hd hs hx
  obtain ⟨b1, b2⟩ := right_of (D := D.take t) (O := (O.set (t - 1) 0).take (t - 1)) (x := x) (by simp; omega) (by simp; omega) (by simp; omega) (fun y hy => hd y (List.mem_of_mem_take hy)) (fun y hy => hs y (List.mem_of_mem_take hy)) hx
  obtain ⟨c1, c2⟩ := right_of (D := D.drop t) (O := (O.set (t - 1) 0).drop t) (x := x) (by simp; omega) (by simp; omega) (by simp; omega) (fun y hy => hd y (List.mem_of_mem_drop hy)) (fun y hy => hs y (List.mem_of_mem_drop hy)) hx
  refine ⟨a1, b1, c1, ?_⟩
  rw [a2, b2, c2]
  have hk : t - 1 < (O.set (t - 1) 0).length := by simp; omega
  have e1 : O.set (t - 1) 0 = (O.set (t - 1) 0).take (t - 1) ++ 0 :: (O.set (t - 1) 0).drop t := by
    have := List.take_append_drop (t - 1) (O.set (t - 1) 0)
    rw [List.drop_eq_getElem_cons hk, List.getElem_set_self, show t - 1 + 1 = t by omega] at this
    exact this.symm
  have e2 : D = D.take t ++ D.drop t := (List.take_append_drop t D).symm
  have := St.cnt_app (val x) ((D.take t).map val) ((D.drop t).map val) (((O.set (t - 1) 0).take (t - 1)).map val) (((O.set (t - 1) 0).drop t).map val) (by simp; omega)
  rw [← this, ← List.map_append, ← e2]
  congr 1
  rw [show (0 : Int) = val 0 from val0.symm, ← List.map_cons, ← List.map_append, ← e1]

end Go.Proofs.YtfjiojdnbdfenaaDoor


/- A chain in the making: two lists of its own, in a block. -/
namespace Go.Proofs.YtfjiojdnbdfenaaDoor
open Go Go.RowKit Nv GFl Ieee
open Go.Proofs.YtfjiojdnbdfenaaDoorW.PrintWords (own_move own_ne own_lt print_append_cells)
set_option maxRecDepth 100000

structure LW (W w : World) (bq : Nat) (vD vO : Value) (D O : List Nat) : Prop where
  b : Below W.heap.size W w
  q : w.heap[bq]? = some (.cells #[vD, vO] 24 (0, 0))
  d : Ow w W.heap.size vD D
  o : Ow w W.heap.size vO O
  sep : ∀ b, vD.ownBlock = some b → vO.ownBlock ≠ some b
  ne : W.heap.size ≤ bq
theorem LW.drewN {W w : World} {bq : Nat} {vD vO : Value} {D O : List Nat} (h : LW W w bq vD vO D O) (n : Nat) : LW W (w.drewN n) bq vD vO D O := ⟨bl_drewN h.b n, h.q, h.d, h.o, h.sep, h.ne⟩
theorem LW.drew {W w : World} {bq : Nat} {vD vO : Value} {D O : List Nat} (h : LW W w bq vD vO D O) : LW W w.drew bq vD vO D O := ⟨bl_drew h.b, h.q, h.d, h.o, h.sep, h.ne⟩
theorem ow_below {w w' : World} {B : Nat} {v : Value} {l : List Nat} (h : Ow w B v l) (hb : Below w.heap.size w w') : Ow w' B v l := own_move h (fun k hk => hb.block k (own_lt h k hk))
theorem ow_base {w : World} {B B' : Nat} {v : Value} {l : List Nat} (h : Ow w B v l) (hb : B' ≤ B) : Ow w B' v l := by
  obtain ⟨h1, h2⟩ := h
  refine ⟨h1, ?_⟩
  rcases h2 with h2 | ⟨g, cap, cur, e, hg, r⟩
  · exact .inl h2
  · exact .inr ⟨g, cap, cur, e, by omega, r⟩
theorem LW.below {W w w' : World} {bq : Nat} {vD vO : Value} {D O : List Nat} (h : LW W w bq vD vO D O) (hb : Below w.heap.size w w') : LW W w' bq vD vO D O := ⟨bl_then h.b hb, kb_keep hb h.q, ow_below h.d hb, ow_below h.o hb, h.sep, h.ne⟩
theorem LW.appO {W w w1 : World} {bq : Nat} {vD vO v1 : Value} {D O : List Nat} {x : Nat} (h : LW W w bq vD vO D O) (hown : w1.ownsRow W.heap.size 25 1 v1 (O.length + 1) (O.map (Value.float .f64) ++ [.float .f64 x])) (hb : Below W.heap.size W w1) (hg : w.grownBy w1 vO.ownBlock)
    (hat : v1.ownBlock = vO.ownBlock ∨ ∃ b, v1.ownBlock = some b ∧ w.heap.size ≤ b) : w1.heap[bq]? = some (.cells #[vD, vO] 24 (0, 0)) ∧ LW W (w1.setCell ⟨bq, 1, none⟩ v1) bq vD v1 D (O ++ [x]) := by
  have q1 : w1.heap[bq]? = some (.cells #[vD, vO] 24 (0, 0)) := (hg.block bq (kb_lt h.q) (own_ne h.o h.q f_ne)).trans h.q
  have hown2 : Ow w1 W.heap.size v1 (O ++ [x]) := by unfold Ow; rw [List.length_append, List.map_append]; exact hown
  have hne := h.ne
  refine ⟨q1, hb.setCell (p := ⟨bq, 1, none⟩) hne v1, ?_, ?_, ?_, ?_, hne⟩
  · exact heap_set q1 1 v1
  · refine own_move h.d (fun k hk => ?_)
    have hlt := own_lt h.d k hk
    rw [Below.heap_setCell _ _ _ _ (show k ≠ bq from fun e => own_ne h.d h.q f_ne (by rw [hk, e]))]
    exact hg.block k hlt (fun e => h.sep k hk e.symm)
  · exact own_move hown2 (fun k hk => Below.heap_setCell _ _ _ _ (fun e => own_ne hown2 q1 f_ne (by rw [hk]; exact congrArg some e.symm)))
  · intro b hb1 hb2
    rcases hat with hat | ⟨b', hb', hle⟩
    · exact h.sep b hb1 (by rw [← hat]; exact hb2)
    · rw [hb'] at hb2
      injection hb2 with hb2
      have := own_lt h.d b hb1
      omega
end Go.Proofs.YtfjiojdnbdfenaaDoor


/- A region that draws its order, more: a load whose value goes a longer way to the writing call. -/
namespace Go.Proofs.YtfjiojdnbdfenaaDoor
open Go
section
variable {P : Program} {ops : Array Oper} {Q : Exit → Act → World → Prop} {md : Region.Mode} {S : World → Prop} {g : Nat}
/-- Each waits for the one ahead of it. -/
def chainW (md : Region.Mode) (ops : Array Oper) : Nat → List Nat → Bool
  | _, [] => true
  | i, c :: r => Waits md ops c i && chainW md ops c r
theorem chainW.not_ready {listed : Array Bool} : ∀ (cs : List Nat) (i : Nat), chainW md ops i cs = true → listed.getD i true = false → (∀ c ∈ cs, listed.getD c true = false) → ∀ c ∈ cs, c ∉ Region.ready md ops listed
  | [], _, _, _, _, _, h => by cases h
  | c :: r, i, hw, hi, hc, d, hd => by
    unfold chainW at hw
    simp only [Bool.and_eq_true] at hw
    rcases List.mem_cons.1 hd with rfl | hd
    · exact Waits.not_ready hw.1 hi
    · exact chainW.not_ready r c hw.2 (hc c (by simp)) (fun x hx => hc x (by simp [hx])) d hd
theorem wpG_loadC {i : Nat} (cs : List Nat) {oi : Oper} {v : Value} (hgi : i ≠ g) (hcs : chainW md ops i cs = true) (hgc : g ∈ cs) (hi : ops[i]? = some oi) (hsel : ∀ (j : Nat) (o : Oper) cs b, ops[j]? = some o → o.op ≠ .select cs b)
    (hQ : ∀ c a w, Q (.panic c) (a.put oi.dst v) w → Q (.panic c) a w) :
    ∀ (fuel : Nat) (listed : Array Bool) (a : Act) (w : World),
      (∀ j oj, ops[j]? = some oj → j ≠ i → listed.getD j true = false → (∀ e ∈ oj.after, Region.binds md e = true → e.on ≠ i) → oi.apart ops oj = true) →
      i ∈ Region.ready md ops listed → (∀ c ∈ cs, listed.getD c true = false) → YieldsIf P ops S oi v a → S w →
      wpG P md ops Q S g fuel (listed.setIfInBounds i true) (a.put oi.dst v) w → wpG P md ops Q S g (fuel + 1) listed a w := by
  intro fuel
  induction fuel with
  | zero =>
    intro listed a w _ hr hc hy hS H
    refine ⟨fun h => (by rw [h] at hr; cases hr), fun j hj => ?_⟩
    by_cases hji : j = i
    · subst hji; exact hy.wpOp hi hS ⟨.inr hS, H⟩
    · have := ready_mono hj hji
      rw [H.1] at this
      cases this
  | succ fuel ih =>
    intro listed a w hfree hr hc hy hS H
    refine ⟨fun h => (by rw [h] at hr; cases hr), fun j hj => ?_⟩
    by_cases hji : j = i
    · subst hji; exact hy.wpOp hi hS ⟨.inr hS, H⟩
    · have h1 := H.2 j (ready_mono hj hji)
      have hun := (mem_ready.1 hr).1
      have hjc : ∀ c ∈ cs, j ≠ c := fun c hc' h => chainW.not_ready cs i hcs hun hc c hc' (h ▸ hj)
      have hjg : j ≠ g := hjc g hgc
      obtain ⟨hjun, oj, hoj, hall⟩ := mem_ready.1 hj
      have hnot : ∀ e ∈ oj.after, Region.binds md e = true → e.on ≠ i := fun e he hb heq => by
        have h1 := hall e he hb
        rw [heq] at h1
        rcases Nat.lt_or_ge i listed.size with h' | h'
        · simp [h'] at hun h1; rw [hun] at h1; cases h1
        · simp [Array.getElem?_eq_none h'] at h1
      have h2 := wpOp_putIf hoj (hfree j oj hoj hji hjun hnot) (fun cs b => hsel i oi cs b hi) (fun cs b => hsel j oj cs b hoj) hQ hy h1
      have hfree' : ∀ k ok, ops[k]? = some ok → k ≠ i → (listed.setIfInBounds j true).getD k true = false →
          (∀ e ∈ ok.after, Region.binds md e = true → e.on ≠ i) → oi.apart ops ok = true := fun k ok hk hki hun hno => by
        refine hfree k ok hk hki ?_ hno
        by_cases hjk : j = k
        · subst hjk; exact hjun
        · rw [getD_set_ne true hjk] at hun; exact hun
      refine wpOp_mono (fun a' w' h3 => ?_) h2
      have e : (listed.setIfInBounds j true).setIfInBounds i true = (listed.setIfInBounds i true).setIfInBounds j true := Array.setIfInBounds_comm _ _ hji
      have hS2 : S w' := by
        rcases h3.2.1 with h4 | h4
        · rw [← e, getD_set_ne true hgi, getD_set_ne true hjg, hc g hgc] at h4; cases h4
        · exact h4
      exact ⟨.inr hS2, ih (listed.setIfInBounds j true) a' w' hfree' (ready_mono hr (Ne.symm hji)) (fun c hc' => by rw [getD_set_ne true (hjc c hc')]; exact hc c hc') h3.1 hS2 (by rw [e]; exact h3.2.2)⟩
theorem wpG_ldC {i : Nat} (cs : List Nat) {oi : Oper} {v : Value} {fuel : Nat} {listed : Array Bool} {a : Act} {w : World} (hi : ops[i]? = some oi) (hgi : (i != g) = true)
    (hs : Region.noSelect ops = true) (hf : Region.free md ops listed i = true) (hr : (Region.ready md ops listed).contains i = true)
    (hw : (chainW md ops i cs && cs.contains g && cs.all (fun c => !(listed.getD c true))) = true)
    (hQ : ∀ c a w, Q (.panic c) (a.put oi.dst v) w → Q (.panic c) a w) (hy : YieldsIf P ops S oi v a) (hS : S w)
    (h : wpG P md ops Q S g fuel (listed.setIfInBounds i true) (a.put oi.dst v) w) : wpG P md ops Q S g (fuel + 1) listed a w := by
  simp only [Bool.and_eq_true, List.all_eq_true, Bool.not_eq_true'] at hw
  exact wpG_loadC cs (by simpa using hgi) hw.1.1 (by simpa using hw.1.2) hi (Region.noSelect_spec hs) hQ fuel listed a w (Region.free_spec hi hf) (by simpa using hr) (fun c hc => hw.2 c hc) hy hS h
end
end Go.Proofs.YtfjiojdnbdfenaaDoor


/- Slices of lists of floats; a chain's blocks. -/
namespace Go.Proofs.YtfjiojdnbdfenaaDoor
open Go Go.RowKit Nv GFl Ieee
open Go.Proofs.YtfjiojdnbdfenaaDoorW.PrintWords (own_move own_ne own_lt print_append_cells Kd print_cut_of)
set_option maxRecDepth 100000

theorem cut_top {P : Program} (t e : TypeId) (kh : IntKind) {i : TypeInfo} (ht : P.underlying t = some (.slice e)) (hi : P.info? e = some i) (A : Option Addr) (n c : Nat) (j : Int) (h0 : 0 ≤ j) (hm : j ≤ c) :
    ∀ W : World, (Instr.slice t (.slice A n c) none (some (.int kh j)) none).run P W = .ok (.slice A j.toNat c) W := by
  intro W
  have hel : P.elem t = e := by simp [Program.elem, ht]
  have hu : P.underlying t = some (.slice (P.elem t)) := by rw [hel]; exact ht
  have ha : (A.map fun x => x.add 0) = A := by cases A <;> simp [Addr.add]
  rw [run_slice_h W t A n c hu kh j h0 (by omega), hel]
  simp [sizeOf, typeInfo, hi, sliced, Result.andThen, ha]
theorem Fl.take_ {w : World} {A : Option Addr} {l : List Nat} (h : Fl w A l) (k : Nat) : Fl w A (l.take k) := by
  have hl : l.length ≤ 9223372036854775807 := h.2.1
  refine Fl.mk (by simp; omega) (fun h0 => ?_)
  obtain ⟨ad, e, _⟩ := h.at (i := 0) (by simp at h0; omega)
  refine ⟨ad, e, fun i hi => ?_⟩
  simp at hi
  obtain ⟨ad', e', hc⟩ := h.at (i := i) (by omega)
  rw [e] at e'
  injection e' with e'
  subst e'
  rw [hc]; simp
theorem Fl.top (A : Option Addr) (n c k : Nat) (hk : k ≤ c) : ∀ W : World, (Instr.slice 22 (.slice A n c) none (some (.int .i64 (k : Int))) none).run Tryd.prog W = .ok (.slice A k c) W := by
  obtain ⟨i, hi, hs⟩ := f_info1
  have := cut_top (P := Tryd.prog) 22 25 .i64 Tryd.underlying22 hi A n c (k : Int) (by omega) (by omega)
  simpa using this
theorem Fl.low (A : Option Addr) (n c k : Nat) (hk : k ≤ n) (hc : n ≤ c) : ∃ A' c', (∀ W : World, (Instr.slice 22 (.slice A n c) (some (.int .i64 (k : Int))) none none).run Tryd.prog W = .ok (.slice A' (n - k) c') W) ∧ (∀ (w : World) (l : List Nat), l.length = n → Fl w A l → Fl w A' (l.drop k)) ∧ n - k ≤ c' := by
  obtain ⟨i, hi, hs⟩ := f_info1
  obtain ⟨A', k1, k2⟩ := print_cut_of (P := Tryd.prog) (Value.float .f64) 0 22 25 .i64 Tryd.underlying22 hi hs A n c k hk
  refine ⟨A', c - k, k1, fun w l hl h => ?_, by omega⟩
  subst hl
  have := k2 w l hc (Kd.reads_of_C (d := (0 : Nat)) h)
  rw [← List.length_drop] at this
  exact Kd.C_of_reads this
theorem heap_other' {w : World} {g k : Nat} (h : k ≠ g) (i : Nat) (u : Value) : (w.setCell ⟨g, i, none⟩ u).heap[k]? = w.heap[k]? := by
  simp [World.setCell, Array.getElem?_modify, Ne.symm h]
theorem LW.setO {W w : World} {bq g cO n : Nat} {vD : Value} {D O : List Nat} {k y : Nat} (h : LW W w bq vD (.slice (some ⟨g, 0, none⟩) n cO) D O) (hl : O.length = n) : LW W (w.setCell ⟨g, k, none⟩ (.float .f64 y)) bq vD (.slice (some ⟨g, 0, none⟩) n cO) D (O.set k y) := by
  subst hl
  have ob : (Value.slice (some ⟨g, 0, none⟩) O.length cO).ownBlock = some g := rfl
  have hg : W.heap.size ≤ g := Go.Proofs.YtfjiojdnbdfenaaDoorW.PrintWords.own_base h.o g ob
  have hq : bq ≠ g := fun e => own_ne h.o h.q f_ne (by rw [ob, e])
  refine ⟨h.b.setCell (p := ⟨g, k, none⟩) hg _, (heap_other' hq k _).trans h.q, own_move h.d (fun k' hk' => heap_other' (fun e => h.sep k' hk' (by rw [ob, e])) k _), ?_, h.sep, h.ne⟩
  have := Go.Proofs.YtfjiojdnbdfenaaDoorW.PrintWords.own_put_of (enc := Value.float .f64) (xs := O) h.o (k : Int) y
  exact this
theorem LW.off {W w : World} {bq n : Nat} {vD vO : Value} {D O : List Nat} (h : LW W w bq vD vO D O) (hl : O.length = n) (h0 : 0 < n) : ∃ g c, vO = .slice (some ⟨g, 0, none⟩) n c ∧ n ≤ c := by
  obtain ⟨A, c, e, hc, f⟩ := ow_sl h.o
  have ho := h.o
  obtain ⟨h1, h2⟩ := ho
  rcases h2 with h2 | ⟨g, cap, cur, e2, _⟩
  · exact absurd h2.2 (by omega)
  · rw [e] at e2
    injection e2 with e3 e4 e5
    subst e3
    rw [hl] at e hc
    exact ⟨g, c, e, hc⟩
theorem LW.frz {W w : World} {bq n g c : Nat} {vD : Value} {D O : List Nat} (h : LW W w bq vD (.slice (some ⟨g, 0, none⟩) n c) D O) (hl : O.length = n) (k : Nat) (hk : k < n) : w.frozen? ⟨g, k, none⟩ = false ∧ ∃ y, w.cell? ⟨g, k, none⟩ = some (.float .f64 y) := by
  have ho := h.o
  unfold Ow at ho
  rw [hl] at ho
  obtain ⟨h1, h2⟩ := Go.Proofs.YtfjiojdnbdfenaaDoorW.PrintWords.own_at_of (enc := Value.float .f64) (d := 0) (xs := O) ho (k : Int) (by omega) (by omega)
  exact ⟨h2, _, h1⟩
/-- Three chains told, each in a block of its own. -/
structure PT (W w : World) (b0 b1 b2 : Nat) (c0 c1 c2 : Array Value) : Prop where
  b : Below W.heap.size W w
  k0 : w.heap[b0]? = some (.cells c0 24 (0, 0))
  k1 : w.heap[b1]? = some (.cells c1 24 (0, 0))
  k2 : w.heap[b2]? = some (.cells c2 24 (0, 0))
theorem PT.then {W w w' : World} {b0 b1 b2 : Nat} {c0 c1 c2 : Array Value} (h : PT W w b0 b1 b2 c0 c1 c2) (hb : Below w.heap.size w w') : PT W w' b0 b1 b2 c0 c1 c2 := ⟨bl_then h.b hb, kb_keep hb h.k0, kb_keep hb h.k1, kb_keep hb h.k2⟩
theorem new_chain (w : World) (s0 s1 : Value) : Below w.heap.size w ((((w.alloc (.cells #[.slice none 0 0, .slice none 0 0] 24)).drew).setCell ⟨w.heap.size, 0, none⟩ s0).setCell ⟨w.heap.size, 1, none⟩ s1) ∧ ((((w.alloc (.cells #[.slice none 0 0, .slice none 0 0] 24)).drew).setCell ⟨w.heap.size, 0, none⟩ s0).setCell ⟨w.heap.size, 1, none⟩ s1).heap[w.heap.size]? = some (.cells #[s0, s1] 24 (0, 0)) := by
  have k := kb_new (w := w) (o := .cells #[.slice none 0 0, .slice none 0 0] 24) (bl_drew (Below.refl _ _))
  exact ⟨bl_set (bl_set (bl_drew (bl_alloc (Below.refl _ _) _)) _ (by simp)) _ (by simp), heap_set (heap_set k 0 s0) 1 s1⟩
end Go.Proofs.YtfjiojdnbdfenaaDoor


/- girderlaw17.SturmParts: the walk. -/
namespace Go.Proofs.YtfjiojdnbdfenaaDoor
open Go Go.RowKit Nv GFl Ieee
open Go.Proofs.YtfjiojdnbdfenaaDoorW.PrintWords (own_move own_ne own_lt print_append_cells)
set_option maxRecDepth 100000
set_option linter.unusedSimpArgs false

/-- A chain that was told, laid out in a block. -/
structure PS (w : World) (D O : List Nat) (AD AO : Option Addr) (nD nO : Nat) (b : Nat) : Prop where
  d : Fl w AD D
  o : Fl w AO O
  hd : D.length ≤ nD
  ho : O.length ≤ nO
  k : w.heap[b]? = some (.cells #[.slice AD D.length nD, .slice AO O.length nO] 24 (0, 0))
theorem PS.then {w w' : World} {D O : List Nat} {AD AO : Option Addr} {nD nO b : Nat} (h : PS w D O AD AO nD nO b) (hb : Below w.heap.size w w') : PS w' D O AD AO nD nO b := ⟨h.d.below hb, h.o.below hb, h.hd, h.ho, kb_keep hb h.k⟩
theorem make_f (m : Nat) (h : m ≤ 1000) : ∃ M : Array Value, (∀ i, i < m → M[i]? = some (.float .f64 0)) ∧ ∀ w : World, (Instr.makeSlice 22 (.int .i64 (m : Int)) (.int .i64 (m : Int))).run Tryd.prog w = .ok (.slice (some ⟨w.heap.size, 0, none⟩) m m) (w.alloc (.cells M 25)) := by
  have hf := f_info
  obtain ⟨i, hi, hz⟩ := Option.map_eq_some_iff.1 hf
  simp only [Prod.mk.injEq] at hz
  refine ⟨madeCells (Value.float .f64 0).cells (m * i.size), fun j hj => ?_, fun w => ?_⟩
  · rw [hz.2.1, Nat.mul_one]
    unfold madeCells
    simp [hj, Value.cells, Nat.mod_one]
  · have := run_make w 22 25 i (.float .f64 0) Tryd.underlying22 hi hz.1 .i64 .i64 m m (by omega) (by omega) (by rw [hz.2.2]; omega) (by omega)
    rw [this]; simp
theorem made_fl {w : World} {b m : Nat} {M : Array Value} {Z : List Nat} (hm : ∀ i, i < m → M[i]? = some (.float .f64 0)) (hZ : Z = List.replicate m 0) (h : m ≤ 1000) (hb : w.heap[b]? = some (.cells M 25 (0, 0))) : Fl w (some ⟨b, 0, none⟩) Z := by
  refine Fl.mk (by rw [hZ]; simp; omega) (fun _ => ⟨_, rfl, fun i hi => ?_⟩)
  have hi' : i < m := by rw [hZ] at hi; simpa using hi
  have e : Z[i] = 0 := by subst hZ; simp
  rw [e]
  have := kb_cell hb (hm i hi')
  rcases Nat.eq_zero_or_pos i with h0 | h0
  · subst h0; simpa [Addr.add] using this
  · have : i ≠ 0 := by omega
    simpa [Addr.add, this] using kb_cell hb (hm i hi')
theorem wrong_z {d o : List Nat} {x : Nat} (h : wrongE d o x = 0) : rightB d o = true ∧ rg x ≤ 6867989431740006400 := by
  unfold wrongE at h
  by_cases hr : rightB d o = true
  · refine ⟨hr, ?_⟩
    rw [if_pos hr] at h
    rcases Nat.lt_or_ge 6867989431740006400 (rg x) with h1 | h1
    · rw [if_pos h1] at h; split at h <;> cases h
    · exact h1
  · rw [if_neg hr] at h; cases h
theorem two_blk (w : World) (o o' : Obj) : ((w.alloc o).alloc o').heap[w.heap.size]? = some o ∧ ((w.alloc o).alloc o').heap[w.heap.size + 1]? = some o' := by
  refine ⟨kb_alloc (kb_new (Below.refl _ _)), ?_⟩
  have := kb_new (w := w.alloc o) (o := o') (Below.refl _ _)
  simpa using this
theorem heap_other {w : World} {g k : Nat} (h : k ≠ g) (i : Nat) (u : Value) : (w.setCell ⟨g, i, none⟩ u).heap[k]? = w.heap[k]? := by
  simp [World.setCell, Array.getElem?_modify, Ne.symm h]
theorem ow_set {w : World} {B b : Nat} {v : Value} {l : List Nat} {cs : Array Value} (h : Ow w B v l) (hb : w.heap[b]? = some (.cells cs 24 (0, 0))) (i : Nat) (u : Value) : Ow (w.setCell ⟨b, i, none⟩ u) B v l :=
  Go.Proofs.YtfjiojdnbdfenaaDoorW.PrintWords.own_move h (fun k hk => heap_other (fun e => Go.Proofs.YtfjiojdnbdfenaaDoorW.PrintWords.own_ne h hb f_ne (by rw [hk, e])) i u)
theorem ps_set {w : World} {B b m n N nD : Nat} {AD : Option Addr} {D Z : List Nat} {M : Array Value} {c0 c1 : Value} (hdl : D.length = N) (hv : Ow w B (.slice AD D.length nD) D) (hn : N ≤ nD) (hM : w.heap[m]? = some (.cells M 25 (0, 0))) (hz : ∀ i, i < n → M[i]? = some (.float .f64 0)) (hZ : Z = List.replicate n 0) (h1 : n ≤ 1000) (hC : w.heap[b]? = some (.cells #[c0, c1] 24 (0, 0))) :
    PS ((w.setCell ⟨b, 0, none⟩ (.slice AD N nD)).setCell ⟨b, 1, none⟩ (.slice (some ⟨m, 0, none⟩) n n)) D Z AD (some ⟨m, 0, none⟩) nD n b := by
  subst hdl
  have hne : m ≠ b := fun e => by rw [e, hC] at hM; injection hM with hM; injection hM with _ h2; exact absurd h2.symm f_ne
  have k1 := heap_set hC 0 (.slice AD D.length nD)
  have k2 := heap_set k1 1 (.slice (some ⟨m, 0, none⟩) n n)
  have o1 := ow_set hv hC 0 (.slice AD D.length nD)
  have o2 := ow_set o1 k1 1 (.slice (some ⟨m, 0, none⟩) n n)
  have zl : Z.length = n := by rw [hZ]; simp
  obtain ⟨A', c', e, _, f⟩ := ow_sl o2
  injection e with e1 e2 e3
  subst e1
  refine ⟨f, made_fl hz hZ h1 ?_, hn, by omega, ?_⟩
  · rw [heap_other hne, heap_other hne]; exact hM
  · rw [k2, zl]; rfl
theorem ps_new {w : World} {b m n N nD : Nat} {AD : Option Addr} {D Z : List Nat} {M : Array Value} (hdl : D.length = N) (f : Fl w AD D) (hn : N ≤ nD) (hM : w.heap[m]? = some (.cells M 25 (0, 0))) (hz : ∀ i, i < n → M[i]? = some (.float .f64 0)) (hZ : Z = List.replicate n 0) (h1 : n ≤ 1000) (hC : w.heap[b]? = some (.cells #[.slice AD N nD, .slice (some ⟨m, 0, none⟩) n n] 24 (0, 0))) :
    PS w D Z AD (some ⟨m, 0, none⟩) nD n b := by
  subst hdl
  have zl : Z.length = n := by rw [hZ]; simp
  exact ⟨f, made_fl hz hZ h1 hM, hn, by omega, by rw [hC, zl]⟩
abbrev nilC : Obj := .cells #[.slice none 0 0, .slice none 0 0] 24
set_option maxHeartbeats 8000000 in
theorem sturmParts_c {W : World} (A : Option Addr) (cA : Nat) (p : List Nat) (B : Option Addr) (cB : Nat) (q : List Nat) (x : Nat) (hA : p.length ≤ cA) (hp : Fl W A p) (wp : ∀ x ∈ p, W64 x) (_hB : q.length ≤ cB) (hq : Fl W B q) (wq : ∀ x ∈ q, W64 x) (hx : W64 x) (hT : Tab W) :
    Calls Tryd.prog 7 #[.slice A p.length cA, .slice B q.length cB, .float .f64 x] W fun e w' => e = .returned (.bool true) ∧ Below W.heap.size W w' := by
  have aw : ∀ w, Below W.heap.size W w → Calls Tryd.prog 11 #[] w fun e w' => e = .returned (.bool true) ∧ Below w.heap.size w w' := fun w h => awake_c w (hT.below h)
  have B0 := Lib.hid (Below.refl W.heap.size W)
  have AW := Lib.hid aw
  obtain ⟨n, hn⟩ : ∃ n : Nat, min p.length 30 = n := ⟨_, rfl⟩
  have hn1 : min (p.length : Int) 30 = (n : Int) := by omega
  have n1 : n ≤ p.length := by omega
  have n2 : n ≤ 30 := by omega
  have HN := Lib.hid hn
  clear aw hn
  by_cases h0 : n = 0
  · have k1 : ((n : Int) == 0) = true := by simpa using h0
    clear h0
    go_enter Tryd.func7, Tryd.ntmps7
    go_wp2_with (first
      | (go_at_call 11; (with_reducible refine (AW.out _ B0.out).mono ?_); rintro e w1 ⟨rfl, hb⟩; have B0 := Lib.hid (bl_then B0.out hb); clear hb))
    go_ret
    exact ⟨rfl, by first | exact B0.out | exact bl_drewN B0.out _⟩
  · have k1 : ((n : Int) == 0) = false := by simpa using h0
    obtain ⟨D, hD⟩ : ∃ D, p.take n = D := ⟨_, rfl⟩
    obtain ⟨Z, hZ⟩ : ∃ Z : List Nat, Z = List.replicate (n - 1) 0 := ⟨_, rfl⟩
    have dl : D.length = n := by rw [← hD]; simp; omega
    have zl : Z.length = n - 1 := by rw [hZ]; simp
    have cp : ∀ w, Below W.heap.size W w → Calls Tryd.prog 29 #[.slice A n cA] w fun e w' => ∃ v, e = .returned v ∧ Ow w' w.heap.size v D ∧ Below w.heap.size w w' := fun w h => by
      have hf : Fl w A D := by
        obtain ⟨h1, h2, h3⟩ := hp.below h
        rw [← hD]
        refine Fl.mk (by simp; omega) (fun h0 => ?_)
        obtain ⟨ad, e, _⟩ := (hp.below h).at (i := 0) (by simp at h0; omega)
        refine ⟨ad, e, fun i hi => ?_⟩
        simp at hi
        obtain ⟨ad', e', hc⟩ := (hp.below h).at (i := i) (by omega)
        rw [e] at e'
        injection e' with e'
        subst e'
        rw [hc]; simp
      have := copy_c A cA D w hf (by omega)
      rw [dl] at this
      exact this
    have CP := Lib.hid cp
    have DL := Lib.hid dl
    have ZL := Lib.hid zl
    have HD := Lib.hid hD
    have HZ := Lib.hid hZ
    clear cp dl zl hD hZ
    obtain ⟨M, hM, mk⟩ := make_f (n - 1) (by omega)
    have HM := Lib.hid hM
    clear hM
    have e1 : IntKind.i64.wrap ((n : Int) - 1) = ((n - 1 : Nat) : Int) := by rw [IntKind.wrap_i64]; omega
    have a0 : (0 : Int) ≤ (n : Int) := by omega
    have a1 : (n : Int) ≤ (cA : Int) := by omega
    have a2 : (n : Int) ≤ (p.length : Int) := by omega
    go_enter Tryd.func7, Tryd.ntmps7
    go_upto_region 6 with (first
      | (go_at_call 11; (with_reducible refine (AW.out _ B0.out).mono ?_); rintro e w1 ⟨rfl, hb⟩; have B0 := Lib.hid (bl_then B0.out hb); clear hb))
    have DRX := Lib.hid (bl_drew B0.out)
    go_cut [8] (fun v8 wx => ∃ (b : Nat) (AD : Option Addr) (nD : Nat) (AO : Option Addr) (nO : Nat), v8 = .pointer (some ⟨b, 0, none⟩) ∧ Hid (Below W.heap.size W wx ∧ PS wx D Z AD AO nD nO b))
    case first =>
      rename_i J K' hJ hK'
      have HJ := Lib.hid hJ
      have HK' := Lib.hid hK'
      clear hJ hK'
      have W1 := B0.out.size
      go_region_with (go_at_call 29; (with_reducible refine (CP.out _ ?hb).mono ?_); (case hb => repeat' (first | (with_reducible exact B0.out) | (with_reducible refine bl_drew ?_) | (with_reducible refine bl_alloc ?_ _))); rintro e w2 ⟨v, rfl, hv, hb⟩; obtain ⟨AD, nD, rfl, hnD, fD⟩ := ow_sl hv; rw [DL.out] at hnD; simp only [DL.out]; have BW2 := Lib.hid (show Below W.heap.size W w2 by (refine bl_then ?_ hb; repeat' (first | (with_reducible exact B0.out) | (with_reducible refine bl_drew ?_) | (with_reducible refine bl_alloc ?_ _)))); first | (have qA := kb_keep hb (two_blk w1 nilC (.cells M 25)).1; have qB := kb_keep hb (two_blk w1 nilC (.cells M 25)).2; have f0 := kb_frozen qA 0; have f1 := kb_frozen qA 1; have c0 := kb_cell qA (i := 0) rfl; have c1 := kb_cell qA (i := 1) rfl; have f0' := kb_frozen (kb_alloc (o' := .cells M 25) qA) 0; have f1' := kb_frozen (kb_alloc (o' := .cells M 25) qA) 1; have c0' := kb_cell (kb_alloc (o' := .cells M 25) qA) (i := 0) rfl; have c1' := kb_cell (kb_alloc (o' := .cells M 25) qA) (i := 1) rfl) | (have qB := kb_keep hb (two_blk w1 (.cells M 25) nilC).1; have qA := kb_keep hb (two_blk w1 (.cells M 25) nilC).2; have f0 := kb_frozen qA 0; have f1 := kb_frozen qA 1; have c0 := kb_cell qA (i := 0) rfl; have c1 := kb_cell qA (i := 1) rfl; have f0' := kb_frozen (kb_alloc (o' := .cells M 25) qA) 0; have f1' := kb_frozen (kb_alloc (o' := .cells M 25) qA) 1; have c0' := kb_cell (kb_alloc (o' := .cells M 25) qA) (i := 0) rfl; have c1' := kb_cell (kb_alloc (o' := .cells M 25) qA) (i := 1) rfl) | (have qA := kb_keep hb (kb_new (w := w1) (o := nilC) (bl_drew (Below.refl _ _))); have f0 := kb_frozen qA 0; have f1 := kb_frozen qA 1; have c0 := kb_cell qA (i := 0) rfl; have c1 := kb_cell qA (i := 1) rfl; have f0' := kb_frozen (kb_alloc (o' := .cells M 25) qA) 0; have f1' := kb_frozen (kb_alloc (o' := .cells M 25) qA) 1; have c0' := kb_cell (kb_alloc (o' := .cells M 25) qA) (i := 0) rfl; have c1' := kb_cell (kb_alloc (o' := .cells M 25) qA) (i := 1) rfl) | (have qB := kb_keep hb (kb_new (w := w1) (o := .cells M 25) (bl_drew (Below.refl _ _)))) | skip)
      all_goals
        refine HK'.out _ _ (Met.intro (HJ.out _ _ ?_))
        (repeat apply Exists.intro)
        refine ⟨?_, rfl⟩
      · exact ⟨_, AD, nD, _, _, rfl, Lib.hid ⟨bl_alloc (bl_alloc BW2.out _) _, ps_new DL.out ((fD.below (bl_alloc (Below.refl _ _) _)).below (bl_alloc (Below.refl _ _) _)) hnD (two_blk w2 _ _).1 HM.out HZ.out (by omega) (two_blk w2 _ _).2⟩⟩
      · exact ⟨_, AD, nD, _, _, rfl, Lib.hid ⟨bl_alloc (bl_alloc BW2.out _) _, ps_new DL.out ((fD.below (bl_alloc (Below.refl _ _) _)).below (bl_alloc (Below.refl _ _) _)) hnD (two_blk w2 _ _).2 HM.out HZ.out (by omega) (two_blk w2 _ _).1⟩⟩
      · exact ⟨_, AD, nD, _, _, rfl, Lib.hid ⟨bl_alloc BW2.out _, ps_new DL.out (fD.below (bl_alloc (Below.refl _ _) _)) hnD (kb_alloc qB) HM.out HZ.out (by omega) (kb_new (Below.refl _ _))⟩⟩
      · exact ⟨_, AD, nD, _, _, rfl, Lib.hid ⟨bl_set (bl_set BW2.out _ (by simp; omega)) _ (by simp; omega), ps_set DL.out hv hnD qB HM.out HZ.out (by omega) qA⟩⟩
      · exact ⟨_, AD, nD, _, _, rfl, Lib.hid ⟨bl_set (bl_set (bl_alloc BW2.out _) _ (by simp; omega)) _ (by simp; omega), ps_set DL.out (Go.Proofs.YtfjiojdnbdfenaaDoorW.PrintWords.own_move hv (fun k hk => Below.heap_alloc _ _ k (Go.Proofs.YtfjiojdnbdfenaaDoorW.PrintWords.own_lt hv k hk))) hnD (kb_new (Below.refl _ _)) HM.out HZ.out (by omega) (kb_alloc qA)⟩⟩
      · exact ⟨_, AD, nD, _, _, rfl, Lib.hid ⟨bl_set (bl_set BW2.out _ (by simp; omega)) _ (by simp; omega), ps_set DL.out hv hnD qB HM.out HZ.out (by omega) qA⟩⟩
    case rest =>
      obtain ⟨b, AD, nD, AO, nO, rfl, hq1⟩ := hcut
      have B0 := Lib.hid hq1.out.1
      have G1 := Lib.hid hq1.out.2
      clear hq1
      have cc0 := kb_cell G1.out.k (i := 0) rfl
      have cc1 := kb_cell G1.out.k (i := 1) rfl
      have wD : ∀ y ∈ D, W64 y := fun y hy => wp y (by rw [← HD.out] at hy; exact List.mem_of_mem_take hy)
      have wZ : ∀ y ∈ Z, W64 y := fun y hy => by rw [HZ.out] at hy; rw [List.eq_of_mem_replicate hy]; exact zeroW
      have ec : ∀ w, Below W.heap.size W w → PS w D Z AD AO nD nO b → Calls Tryd.prog 15 #[.agg #[.slice AD D.length nD, .slice AO Z.length nO], .float .f64 x] w fun e w' => e = .returned (.tuple #[.int .i64 (exactN D Z x), .int .i64 (wrongE D Z x)]) ∧ Below w.heap.size w w' := fun w h g => exact_c AD AO nD nO D Z x w g.d g.o g.hd g.ho wD wZ hx (hT.below h)
      have kc : ∀ w, PS w D Z AD AO nD nO b → Calls Tryd.prog 14 #[.agg #[.slice AD D.length nD, .slice AO Z.length nO], .float .f64 x] w fun e w' => e = .returned (.tuple #[.int .i64 (countN D Z x), .int .i64 (wrongE D Z x)]) ∧ Below w.heap.size w w' := fun w g => count_c AD AO nD nO D Z x w g.d g.o wD wZ hx
      by_cases he : wrongE D Z x = 0
      · have eb : exactN D Z x = blw D x := by
          have hz := HZ.out
          rw [← DL.out] at hz
          subst hz
          exact blw_exact he
        obtain ⟨hr, xr⟩ := wrong_z he
        rw [he] at ec kc
        rw [eb] at ec
        have EC := Lib.hid ec
        have KC := Lib.hid kc
        have HP := Lib.hid hp
        have HQ := Lib.hid hq
        have WP := Lib.hid wp
        have WQ := Lib.hid wq
        have HX := Lib.hid hx
        have HT := Lib.hid hT
        have HR := Lib.hid hr
        have XR := Lib.hid xr
        clear ec kc hp hq wp wq hx hT he eb hr xr wD wZ mk
        go_wp2_with (first
          | (go_at_call 15; (with_reducible refine (EC.out _ B0.out G1.out).mono ?_); rintro e w2 ⟨rfl, hb⟩; have B0 := Lib.hid (bl_then B0.out hb); have G1 := Lib.hid (G1.out.then hb); have cc0 := kb_cell G1.out.k (i := 0) rfl; have cc1 := kb_cell G1.out.k (i := 1) rfl; clear hb)
          | (go_at_call 14; (with_reducible refine (KC.out _ G1.out).mono ?_); rintro e w2 ⟨rfl, hb⟩; have B0 := Lib.hid (bl_then B0.out hb); have G1 := Lib.hid (G1.out.then hb); have cc0 := kb_cell G1.out.k (i := 0) rfl; have cc1 := kb_cell G1.out.k (i := 1) rfl; clear hb))
        go_loopw [13, 14] (fun v13 v14 wr => ∃ (i : Nat) (c : Int), v13 = .int .i64 c ∧ v14 = .int .i64 i ∧ i ≤ n ∧ 0 ≤ c ∧ c ≤ i ∧ Hid (c = blw (D.take i) x ∧ Below W.heap.size W wr ∧ PS wr D Z AD AO nD nO b)) (fun _ v _ => n - (intOf v).toNat)
        case atStart => exact ⟨0, 0, rfl, rfl, Nat.zero_le _, by omega, by omega, Lib.hid ⟨by simp [blw], B0.out, G1.out⟩⟩
        case round =>
          obtain ⟨i, c, rfl, rfl, hi, hc0, hc1, hq⟩ := hrel
          by_cases hlt : i < n
          · have l1 : decide (i < n) = true := decide_eq_true hlt
            have HLT := Lib.hid hlt
            have ip : i < p.length := by omega
            obtain ⟨pd, hA2, d0⟩ := (HP.out.below hq.out.2.1).at ip
            subst hA2
            have tl := t_lt (WP.out _ (List.getElem_mem ip)) HX.out
            have hin : i < D.length := by rw [DL.out]; exact hlt
            have gD : D[i] = p[i] := by simp [← HD.out]
            have f1 : isn p[i] = false := by
              have := (rightB_d HR.out).2.2.2.1 D[i] (List.getElem_mem hin)
              rw [gD] at this
              rw [isn_eq]; simp; omega
            have f2 : isn x = false := by have := XR.out; rw [isn_eq]; simp; omega
            rw [f1, f2] at tl
            have nb : blw (D.take (i + 1)) x = blw (D.take i) x + if plc p[i] < plc x then 1 else 0 := by
              unfold blw
              rw [List.take_succ_eq_append_getElem hin, List.filter_append, List.length_append, gD]
              by_cases h : plc p[i] < plc x <;> simp [h]
            have NB := Lib.hid nb
            have IN : Hid (i < D.length) := Lib.hid hin
            clear nb hin gD f1 f2
            have j1 : IntKind.i64.wrap ((i : Int) + 1) = (i : Int) + 1 := by rw [IntKind.wrap_i64]; omega
            have j2 : IntKind.i64.wrap (c + 1) = c + 1 := by rw [IntKind.wrap_i64]; omega
            have j3 : (i : Int) < (p.length : Int) := by omega
            by_cases hb : plc p[i] < plc x
            · have HB := Lib.hid hb
              rw [decide_eq_true hb] at tl
              clear hb hlt
              go_wp2
              go_roundw
              case rel => exact ⟨i + 1, c + 1, rfl, by go_num, (by have := HLT.out; omega), by omega, by omega, Lib.hid ⟨by rw [NB.out, if_pos HB.out, ← hq.out.1], hq.out.2⟩⟩
              case measure => have := HLT.out; simp [intOf]; omega
            · have HB := Lib.hid hb
              rw [decide_eq_false hb] at tl
              clear hb hlt
              go_wp2
              go_roundw
              case rel => exact ⟨i + 1, c, rfl, by go_num, (by have := HLT.out; omega), by omega, by omega, Lib.hid ⟨by rw [NB.out, if_neg HB.out, ← hq.out.1]; omega, hq.out.2⟩⟩
              case measure => have := HLT.out; simp [intOf]; omega
          · have l1 : decide (i < n) = false := decide_eq_false hlt
            have hin : i = n := by omega
            have ce : c = blw D x := by rw [hq.out.1, hin, ← DL.out, List.take_length]
            subst ce
            have B0 := Lib.hid hq.out.2.1
            have G1 := Lib.hid hq.out.2.2
            clear hq hin hlt
            by_cases hn1 : n = 1
            · have k2 : ((n : Int) == 1) = true := by simp; omega
              clear hn1
              go_wp2
              go_ret
              exact ⟨rfl, by first | exact B0.out.1 | exact B0.out | exact bl_drewN B0.out _⟩
            · have k2 : ((n : Int) == 1) = false := by simp; omega
              go_upto_region 20 with (go_at_call 29; (with_reducible refine (CP.out _ B0.out).mono ?_); rintro e w2 ⟨v, rfl, hv, hb⟩; obtain ⟨AD2, nD2, rfl, hnD2, fD2⟩ := ow_sl hv; rw [DL.out] at hnD2; have hv0 := hv; rw [DL.out] at hv0; simp only [DL.out]; have B1 := Lib.hid B0.out.size; have B0 := Lib.hid (bl_then B0.out hb); have G1 := Lib.hid (G1.out.then hb))
              have hL : LW W (w2.alloc (.cells #[.slice AD2 n nD2, .slice none 0 0] 24)) w2.heap.size (.slice AD2 n nD2) (.slice none 0 0) D [] := by
                refine ⟨bl_alloc B0.out _, kb_new (Below.refl _ _), ?_, World.ownsRow_nil _ _ _ _, fun b _ h => by simp [Value.ownBlock] at h, B0.out.size⟩
                have := ow_base (ow_below hv (bl_alloc (Below.refl _ _) (.cells #[.slice AD2 n nD2, .slice none 0 0] 24))) B1.out
                rw [DL.out] at this
                exact this
              have HL := Lib.hid hL
              obtain ⟨bq, hbq⟩ : ∃ b, w2.heap.size = b := ⟨_, rfl⟩
              rw [hbq] at HL
              have HD2 := Lib.hid hnD2
              clear hL hv hv0 hb fD2 cc0 cc1 a0 a1 a2 e1 hnD2
              have e1 : IntKind.i64.wrap ((n : Int) - 1) = ((n - 1 : Nat) : Int) := by rw [IntKind.wrap_i64]; omega
              go_wp2
              simp only [hbq]
              go_loopw [16] (fun v16 wr => ∃ (i : Nat) (vO : Value), v16 = .int .i64 i ∧ i ≤ n - 1 ∧ Hid (LW W wr bq (.slice AD2 n nD2) vO D (offs q i))) (fun v _ => n - (intOf v).toNat)
              case atStart => exact ⟨0, _, rfl, Nat.zero_le _, Lib.hid HL.out⟩
              case round =>
                obtain ⟨i, vO, rfl, hi, hq⟩ := hrel
                clear HL
                by_cases hlt : i < n - 1
                · have l1 : decide (i < n - 1) = true := decide_eq_true hlt
                  have c0 := kb_cell hq.out.q (i := 1) (v := vO) rfl
                  have f0 := kb_frozen hq.out.q 1
                  have OS := Lib.hid (offs_succ q i)
                  have LN := Lib.hid (offs_len q i)
                  have i29 : i ≤ 29 := by omega
                  have j1 : IntKind.i64.wrap ((i : Int) + 1) = (i : Int) + 1 := by rw [IntKind.wrap_i64]; omega
                  have HI : Hid (i + 1 ≤ n - 1) := Lib.hid (by omega)
                  clear hlt
                  by_cases hin : i < q.length
                  · have l2 : decide (i < q.length) = true := decide_eq_true hin
                    obtain ⟨qd, hB2, d0⟩ := (HQ.out.below hq.out.b).at hin
                    subst hB2
                    have j2 : (i : Int) < (q.length : Int) := by omega
                    have j3 : (0 : Int) ≤ (i : Int) := by omega
                    have hqg : q.getD i 0 = q[i] := by rw [List.getD_eq_getElem?_getD, List.getElem?_eq_getElem hin]; rfl
                    have oe : offAt q i = if offOk q[i] = true then q[i] else 4607182418800017408 := by unfold offAt; rw [hqg]; simp [hin]
                    have wy := WQ.out _ (List.getElem_mem hin)
                    obtain ⟨y, hy⟩ : ∃ y, q[i] = y := ⟨_, rfl⟩
                    rw [hy] at d0 oe wy
                    have t1 := t_lt wy (w_const (by decide) : W64 6103021453049119613)
                    have t2 := t_gt wy (w_const (by decide) : W64 15326393489903895421)
                    rw [show isn 6103021453049119613 = false by decide, show plc 6103021453049119613 = 6103021453049119613 by decide] at t1
                    rw [show isn 15326393489903895421 = false by decide, show plc 15326393489903895421 = -6103021453049119613 by decide] at t2
                    cases hf : finB y
                    · have s0 := nofin_sub wy hf
                      have oe2 : offOk y = false := by unfold finB at hf; simp only [decide_eq_false_iff_not] at hf; unfold offOk; rw [decide_eq_false hf]; rfl
                      rw [oe, oe2] at OS
                      simp only [Bool.false_eq_true, if_false] at OS
                      clear oe oe2 hf t1 t2 wy hy hqg hin
                      go_wp2
                      have HQ4 := Lib.hid hq.out.drew
                      have hS : wr.drew.cell? (qd.add i) = some (.float .f64 y) := d0
                      refine wp_region_G (g := 13) (S := fun w' => w'.cell? (qd.add i) = some (.float .f64 y)) (by kernel_rfl) ?_
                      obtain ⟨wd, hwd⟩ : ∃ w, wr.drew = w := ⟨_, rfl⟩
                      rw [hwd] at HQ4 hS
                      rw [hwd]
                      clear hwd d0 hq c0 f0
                      have c0 := kb_cell HQ4.out.q (i := 1) (v := vO) rfl
                      have f0 := kb_frozen HQ4.out.q 1
                      obtain ⟨r, nn, hr, re⟩ := run_arith (P := Tryd.prog) .sub 25 .f64 y y wd rfl
                      rw [s0] at hr
                      have t0 := nan_eq hr.1 hr.2
                      have RE := Lib.hid re
                      clear s0 hr re
                      (refine wpG_take (i := 0) (v := ?_) rfl rfl (by kernel_rfl) (by kernel_rfl) (by kernel_rfl) (fun _ _ _ h => h) (Or.inl ⟨by rfl, fun w => ?_⟩) (Or.inr hS) ?_; rotate_left; focus (go_simp; first | done | with_reducible rfl | exact rfl)); (try simp only [Act.put, List.setIfInBounds_toArray, List.set_cons_zero, List.set_cons_succ, List.getElem_toArray, List.getElem_cons_zero, List.getElem_cons_succ]); (refine wpG_take (i := 1) (v := ?_) rfl rfl (by kernel_rfl) (by kernel_rfl) (by kernel_rfl) (fun _ _ _ h => h) (Or.inl ⟨by rfl, fun w => ?_⟩) (Or.inr hS) ?_; rotate_left; focus (go_simp; first | done | with_reducible rfl | exact rfl)); (try simp only [Act.put, List.setIfInBounds_toArray, List.set_cons_zero, List.set_cons_succ, List.getElem_toArray, List.getElem_cons_zero, List.getElem_cons_succ]); (refine wpG_take (i := 2) (v := ?_) rfl rfl (by kernel_rfl) (by kernel_rfl) (by kernel_rfl) (fun _ _ _ h => h) (Or.inl ⟨by rfl, fun w => ?_⟩) (Or.inr hS) ?_; rotate_left; focus (go_simp; first | done | with_reducible rfl | exact rfl)); (try simp only [Act.put, List.setIfInBounds_toArray, List.set_cons_zero, List.set_cons_succ, List.getElem_toArray, List.getElem_cons_zero, List.getElem_cons_succ]); (refine wpG_take (i := 3) (v := ?_) rfl rfl (by kernel_rfl) (by kernel_rfl) (by kernel_rfl) (fun _ _ _ h => h) (Or.inl ⟨by rfl, fun w => ?_⟩) (Or.inr hS) ?_; rotate_left; focus (go_simp; first | done | with_reducible rfl | exact rfl)); (try simp only [Act.put, List.setIfInBounds_toArray, List.set_cons_zero, List.set_cons_succ, List.getElem_toArray, List.getElem_cons_zero, List.getElem_cons_succ]); (refine wpG_take (i := 4) (v := ?_) rfl rfl (by kernel_rfl) (by kernel_rfl) (by kernel_rfl) (fun _ _ _ h => h) (Or.inl ⟨by rfl, fun w => ?_⟩) (Or.inr hS) ?_; rotate_left; focus (go_simp; first | done | with_reducible rfl | exact rfl)); (try simp only [Act.put, List.setIfInBounds_toArray, List.set_cons_zero, List.set_cons_succ, List.getElem_toArray, List.getElem_cons_zero, List.getElem_cons_succ])
                      (refine wpG_take (i := 5) (v := ?_) rfl rfl (by kernel_rfl) (by kernel_rfl) (by kernel_rfl) (fun _ _ _ h => h) (Or.inl ⟨by kernel_rfl, fun w => ?_⟩) (Or.inr hS) ?_; rotate_left; focus (go_simp; first | done | with_reducible rfl | exact rfl)); (try simp only [Act.put, List.setIfInBounds_toArray, List.set_cons_zero, List.set_cons_succ, List.getElem_toArray, List.getElem_cons_zero, List.getElem_cons_succ]); (refine wpG_take (i := 6) (v := ?_) rfl rfl (by kernel_rfl) (by kernel_rfl) (by kernel_rfl) (fun _ _ _ h => h) (Or.inl ⟨by kernel_rfl, fun w => ?_⟩) (Or.inr hS) ?_; rotate_left; focus (go_simp; first | done | with_reducible rfl | exact rfl)); (try simp only [Act.put, List.setIfInBounds_toArray, List.set_cons_zero, List.set_cons_succ, List.getElem_toArray, List.getElem_cons_zero, List.getElem_cons_succ]); (refine wpG_take (i := 7) (v := ?_) rfl rfl (by kernel_rfl) (by kernel_rfl) (by kernel_rfl) (fun _ _ _ h => h) (Or.inl ⟨by kernel_rfl, fun w => ?_⟩) (Or.inr hS) ?_; rotate_left; focus (go_simp; first | done | with_reducible rfl | exact rfl)); (try simp only [Act.put, List.setIfInBounds_toArray, List.set_cons_zero, List.set_cons_succ, List.getElem_toArray, List.getElem_cons_zero, List.getElem_cons_succ])
                      (refine wpG_ld (i := 8) 13 (v := ?_) rfl rfl (by kernel_rfl) (by kernel_rfl) (by kernel_rfl) (by kernel_rfl) (fun _ _ _ h => h) (Or.inl ⟨by kernel_rfl, ?_⟩) hS ?_; rotate_left; focus (intro w hSw; (try dsimp only at hSw); go_simp; first | done | with_reducible rfl | exact rfl)); (try simp only [Act.put, List.setIfInBounds_toArray, List.set_cons_zero, List.set_cons_succ, List.getElem_toArray, List.getElem_cons_zero, List.getElem_cons_succ])
                      (refine wpG_take (i := 9) (v := ?_) rfl rfl (by kernel_rfl) (by kernel_rfl) (by kernel_rfl) (fun _ _ _ h => h) (Or.inl ⟨by kernel_rfl, fun w => ?_⟩) (Or.inr hS) ?_; rotate_left; focus (go_simp; first | done | with_reducible rfl | exact rfl)); (try simp only [Act.put, List.setIfInBounds_toArray, List.set_cons_zero, List.set_cons_succ, List.getElem_toArray, List.getElem_cons_zero, List.getElem_cons_succ]); (refine wpG_take (i := 10) (v := ?_) rfl rfl (by kernel_rfl) (by kernel_rfl) (by kernel_rfl) (fun _ _ _ h => h) (Or.inl ⟨by kernel_rfl, fun w => ?_⟩) (Or.inr hS) ?_; rotate_left; focus (go_simp; first | done | with_reducible rfl | exact rfl)); (try simp only [Act.put, List.setIfInBounds_toArray, List.set_cons_zero, List.set_cons_succ, List.getElem_toArray, List.getElem_cons_zero, List.getElem_cons_succ]); (refine wpG_take (i := 11) (v := ?_) rfl rfl (by kernel_rfl) (by kernel_rfl) (by kernel_rfl) (fun _ _ _ h => h) (Or.inl ⟨by kernel_rfl, fun w => ?_⟩) (Or.inr hS) ?_; rotate_left; focus (go_simp; first | done | with_reducible rfl | exact rfl)); (try simp only [Act.put, List.setIfInBounds_toArray, List.set_cons_zero, List.set_cons_succ, List.getElem_toArray, List.getElem_cons_zero, List.getElem_cons_succ])
                      (refine wpG_ld (i := 12) 13 (v := ?_) rfl rfl (by kernel_rfl) (by kernel_rfl) (by kernel_rfl) (by kernel_rfl) (fun _ _ _ h => h) (Or.inl ⟨by kernel_rfl, ?_⟩) hS ?_; rotate_left; focus (intro w hSw; (try dsimp only at hSw); go_simp; first | done | with_reducible rfl | exact rfl)); (try simp only [Act.put, List.setIfInBounds_toArray, List.set_cons_zero, List.set_cons_succ, List.getElem_toArray, List.getElem_cons_zero, List.getElem_cons_succ])
                      refine wpG_one (i := 13) (by kernel_rfl) rfl (fun K hK => ?_); have HK := Lib.hid hK; clear hK
                      have re := RE.out
                      rw [if_pos (show Region.wanted _ _ = true by kernel_rfl)]
                      go_simp
                      refine HK.out _ _ (Or.inl (by kernel_rfl)) ?_
                      clear HK K hS re
                      (try simp only [Act.put, List.setIfInBounds_toArray, List.set_cons_zero, List.set_cons_succ, List.getElem_toArray, List.getElem_cons_zero, List.getElem_cons_succ])
                      (refine wpG_take (i := 14) (v := ?_) rfl rfl (by kernel_rfl) (by kernel_rfl) (by kernel_rfl) (fun _ _ _ h => h) (Or.inl ⟨by kernel_rfl, fun w => ?_⟩) (Or.inl (by kernel_rfl)) ?_; rotate_left; focus (go_simp; first | done | with_reducible rfl | exact rfl)); (try simp only [Act.put, List.setIfInBounds_toArray, List.set_cons_zero, List.set_cons_succ, List.getElem_toArray, List.getElem_cons_zero, List.getElem_cons_succ])
                      (refine wpG_take (i := 15) (v := ?_) rfl rfl (by kernel_rfl) (by kernel_rfl) (by kernel_rfl) (fun _ _ _ h => h) (Or.inl ⟨by rfl, fun w => ?_⟩) (Or.inl (by kernel_rfl)) ?_; rotate_left; focus (go_simp; first | done | with_reducible rfl | exact rfl)); (try simp only [Act.put, List.setIfInBounds_toArray, List.set_cons_zero, List.set_cons_succ, List.getElem_toArray, List.getElem_cons_zero, List.getElem_cons_succ]); (refine wpG_take (i := 16) (v := ?_) rfl rfl (by kernel_rfl) (by kernel_rfl) (by kernel_rfl) (fun _ _ _ h => h) (Or.inl ⟨by rfl, fun w => ?_⟩) (Or.inl (by kernel_rfl)) ?_; rotate_left; focus (go_simp; first | done | with_reducible rfl | exact rfl)); (try simp only [Act.put, List.setIfInBounds_toArray, List.set_cons_zero, List.set_cons_succ, List.getElem_toArray, List.getElem_cons_zero, List.getElem_cons_succ])
                      (refine wpG_take (i := 17) (v := _) rfl rfl (by kernel_rfl) (by kernel_rfl) (by kernel_rfl) (fun _ _ _ h => h) (Or.inr ⟨by kernel_rfl, rfl⟩) (Or.inl (by kernel_rfl)) ?_); (try simp only [Act.put, List.setIfInBounds_toArray, List.set_cons_zero, List.set_cons_succ, List.getElem_toArray, List.getElem_cons_zero, List.getElem_cons_succ]); (refine wpG_take (i := 18) (v := _) rfl rfl (by kernel_rfl) (by kernel_rfl) (by kernel_rfl) (fun _ _ _ h => h) (Or.inr ⟨by kernel_rfl, rfl⟩) (Or.inl (by kernel_rfl)) ?_); (try simp only [Act.put, List.setIfInBounds_toArray, List.set_cons_zero, List.set_cons_succ, List.getElem_toArray, List.getElem_cons_zero, List.getElem_cons_succ]); (refine wpG_take (i := 19) (v := _) rfl rfl (by kernel_rfl) (by kernel_rfl) (by kernel_rfl) (fun _ _ _ h => h) (Or.inr ⟨by kernel_rfl, rfl⟩) (Or.inl (by kernel_rfl)) ?_); (try simp only [Act.put, List.setIfInBounds_toArray, List.set_cons_zero, List.set_cons_succ, List.getElem_toArray, List.getElem_cons_zero, List.getElem_cons_succ]); (refine wpG_take (i := 20) (v := _) rfl rfl (by kernel_rfl) (by kernel_rfl) (by kernel_rfl) (fun _ _ _ h => h) (Or.inr ⟨by kernel_rfl, rfl⟩) (Or.inl (by kernel_rfl)) ?_); (try simp only [Act.put, List.setIfInBounds_toArray, List.set_cons_zero, List.set_cons_succ, List.getElem_toArray, List.getElem_cons_zero, List.getElem_cons_succ]); (refine wpG_take (i := 21) (v := _) rfl rfl (by kernel_rfl) (by kernel_rfl) (by kernel_rfl) (fun _ _ _ h => h) (Or.inr ⟨by kernel_rfl, rfl⟩) (Or.inl (by kernel_rfl)) ?_); (try simp only [Act.put, List.setIfInBounds_toArray, List.set_cons_zero, List.set_cons_succ, List.getElem_toArray, List.getElem_cons_zero, List.getElem_cons_succ])
                      (refine wpG_take (i := 22) (v := ?_) rfl rfl (by kernel_rfl) (by kernel_rfl) (by kernel_rfl) (fun _ _ _ h => h) (Or.inl ⟨by rfl, fun w => ?_⟩) (Or.inl (by kernel_rfl)) ?_; rotate_left; focus (go_simp; first | done | with_reducible rfl | exact rfl)); (try simp only [Act.put, List.setIfInBounds_toArray, List.set_cons_zero, List.set_cons_succ, List.getElem_toArray, List.getElem_cons_zero, List.getElem_cons_succ]); (refine wpG_take (i := 23) (v := ?_) rfl rfl (by kernel_rfl) (by kernel_rfl) (by kernel_rfl) (fun _ _ _ h => h) (Or.inl ⟨by rfl, fun w => ?_⟩) (Or.inl (by kernel_rfl)) ?_; rotate_left; focus (go_simp; first | done | with_reducible rfl | exact rfl)); (try simp only [Act.put, List.setIfInBounds_toArray, List.set_cons_zero, List.set_cons_succ, List.getElem_toArray, List.getElem_cons_zero, List.getElem_cons_succ])
                      (refine wpG_take (i := 24) (v := _) rfl rfl (by kernel_rfl) (by kernel_rfl) (by kernel_rfl) (fun _ _ _ h => h) (Or.inr ⟨by kernel_rfl, rfl⟩) (Or.inl (by kernel_rfl)) ?_); (try simp only [Act.put, List.setIfInBounds_toArray, List.set_cons_zero, List.set_cons_succ, List.getElem_toArray, List.getElem_cons_zero, List.getElem_cons_succ]); (refine wpG_take (i := 25) (v := _) rfl rfl (by kernel_rfl) (by kernel_rfl) (by kernel_rfl) (fun _ _ _ h => h) (Or.inr ⟨by kernel_rfl, rfl⟩) (Or.inl (by kernel_rfl)) ?_); (try simp only [Act.put, List.setIfInBounds_toArray, List.set_cons_zero, List.set_cons_succ, List.getElem_toArray, List.getElem_cons_zero, List.getElem_cons_succ]); (refine wpG_take (i := 26) (v := _) rfl rfl (by kernel_rfl) (by kernel_rfl) (by kernel_rfl) (fun _ _ _ h => h) (Or.inr ⟨by kernel_rfl, rfl⟩) (Or.inl (by kernel_rfl)) ?_); (try simp only [Act.put, List.setIfInBounds_toArray, List.set_cons_zero, List.set_cons_succ, List.getElem_toArray, List.getElem_cons_zero, List.getElem_cons_succ]); (refine wpG_take (i := 27) (v := _) rfl rfl (by kernel_rfl) (by kernel_rfl) (by kernel_rfl) (fun _ _ _ h => h) (Or.inr ⟨by kernel_rfl, rfl⟩) (Or.inl (by kernel_rfl)) ?_); (try simp only [Act.put, List.setIfInBounds_toArray, List.set_cons_zero, List.set_cons_succ, List.getElem_toArray, List.getElem_cons_zero, List.getElem_cons_succ]); (refine wpG_take (i := 28) (v := _) rfl rfl (by kernel_rfl) (by kernel_rfl) (by kernel_rfl) (fun _ _ _ h => h) (Or.inr ⟨by kernel_rfl, rfl⟩) (Or.inl (by kernel_rfl)) ?_); (try simp only [Act.put, List.setIfInBounds_toArray, List.set_cons_zero, List.set_cons_succ, List.getElem_toArray, List.getElem_cons_zero, List.getElem_cons_succ])
                      (refine wpG_take (i := 29) (v := ?_) rfl rfl (by kernel_rfl) (by kernel_rfl) (by kernel_rfl) (fun _ _ _ h => h) (Or.inl ⟨by rfl, fun w => ?_⟩) (Or.inl (by kernel_rfl)) ?_; rotate_left; focus (go_simp; first | done | with_reducible rfl | exact rfl)); (try simp only [Act.put, List.setIfInBounds_toArray, List.set_cons_zero, List.set_cons_succ, List.getElem_toArray, List.getElem_cons_zero, List.getElem_cons_succ])
                      refine wpG_done (by kernel_rfl) ?_ _
                      go_wp2_with (first
                        | (at_builtin; (refine print_append_cells (w0 := W) W.heap.size rfl (.tmp 136) (.tmp 138) 22 25 (.float .f64 0) 1 8 rfl Tryd.underlying22 f_info rfl (by decide) (by decide) vO (offs q i).length ((offs q i).map (Value.float .f64)) [.float .f64 _] rfl rfl rfl (fun u hu => by rw [List.mem_singleton.1 hu]; rfl) (HQ4.out.drewN _).o (HQ4.out.drewN _).b (HQ4.out.drewN _).b.size (by rw [LN.out]; omega) ?_); intro v1 w1 hown hb hg hat; obtain ⟨e1, e2⟩ := (HQ4.out.drewN _).appO hown hb hg hat; obtain ⟨A1, n1, ev, _, _⟩ := ow_sl e2.o; rw [List.length_append, LN.out, List.length_singleton] at ev; subst ev; have H3 := Lib.hid e2; have g1 := kb_cell e1 (i := 1) (v := vO) rfl; have g2 := kb_frozen e1 1; clear e1 e2 hown hb hg hat))
                      go_roundw
                      case rel => exact ⟨i + 1, _, by go_num, HI.out, Lib.hid (by rw [OS.out]; exact H3.out)⟩
                      case measure => have := HI.out; simp [intOf]; omega
                    · have s0 := fin_sub wy hf
                      have z0 : (FloatKind.f64.format.order 0 0 == some .eq) = true := by decide
                      unfold finB at hf
                      simp only [decide_eq_true_eq] at hf
                      have hn : isn y = false := by rw [isn_eq]; simp; omega
                      rw [hn] at t1 t2
                      simp only [Bool.not_false, Bool.true_and] at t1 t2
                      have hk : offOk y = (decide (plc y < 6103021453049119613) && decide (-6103021453049119613 < plc y)) := by unfold offOk; rw [decide_eq_true hf]; rfl
                      rw [hk] at oe
                      obtain ⟨b1, hb1⟩ : ∃ b, decide (plc y < 6103021453049119613) = b := ⟨_, rfl⟩
                      obtain ⟨b2, hb2⟩ : ∃ b, decide (-6103021453049119613 < plc y) = b := ⟨_, rfl⟩
                      rw [hb1] at t1 oe
                      rw [hb2] at t2 oe
                      clear hb1 hb2 hk hn hf wy hy hqg hin
                      cases b1 <;> cases b2
                      all_goals
                        rw [oe] at OS
                        clear oe
                        go_wp2
                        go_quiet (fail)
                        go_wp2_with (first
                          | (at_builtin; (refine print_append_cells (w0 := W) W.heap.size rfl (.tmp 136) (.tmp 138) 22 25 (.float .f64 0) 1 8 rfl Tryd.underlying22 f_info rfl (by decide) (by decide) vO (offs q i).length ((offs q i).map (Value.float .f64)) [.float .f64 _] rfl rfl rfl (fun u hu => by rw [List.mem_singleton.1 hu]; rfl) (hq.out.drewN _).o (hq.out.drewN _).b (hq.out.drewN _).b.size (by rw [LN.out]; omega) ?_); intro v1 w1 hown hb hg hat; obtain ⟨e1, e2⟩ := (hq.out.drewN _).appO hown hb hg hat; obtain ⟨A1, n1, ev, _, _⟩ := ow_sl e2.o; rw [List.length_append, LN.out, List.length_singleton] at ev; subst ev; have H3 := Lib.hid e2; have g1 := kb_cell e1 (i := 1) (v := vO) rfl; have g2 := kb_frozen e1 1; clear e1 e2 hown hb hg hat))
                        go_roundw
                        case rel => exact ⟨i + 1, _, by go_num, HI.out, Lib.hid (by rw [OS.out]; exact H3.out)⟩
                        case measure => have := HI.out; simp [intOf]; omega
                  · have l2 : decide (i < q.length) = false := decide_eq_false hin
                    have oe : offAt q i = 4607182418800017408 := by unfold offAt; rw [if_neg (fun h => hin h.1)]
                    rw [oe] at OS
                    clear oe hin
                    go_wp2
                    go_quiet (fail)
                    go_wp2_with (first
                      | (at_builtin; (refine print_append_cells (w0 := W) W.heap.size rfl (.tmp 136) (.tmp 138) 22 25 (.float .f64 0) 1 8 rfl Tryd.underlying22 f_info rfl (by decide) (by decide) vO (offs q i).length ((offs q i).map (Value.float .f64)) [.float .f64 _] rfl rfl rfl (fun u hu => by rw [List.mem_singleton.1 hu]; rfl) (hq.out.drewN _).o (hq.out.drewN _).b (hq.out.drewN _).b.size (by rw [LN.out]; omega) ?_); intro v1 w1 hown hb hg hat; obtain ⟨e1, e2⟩ := (hq.out.drewN _).appO hown hb hg hat; obtain ⟨A1, n1, ev, _, _⟩ := ow_sl e2.o; rw [List.length_append, LN.out, List.length_singleton] at ev; subst ev; have H3 := Lib.hid e2; have g1 := kb_cell e1 (i := 1) (v := vO) rfl; have g2 := kb_frozen e1 1; clear e1 e2 hown hb hg hat))
                    go_roundw
                    case rel => exact ⟨i + 1, _, by go_num, HI.out, Lib.hid (by rw [OS.out]; exact H3.out)⟩
                    case measure => have := HI.out; simp [intOf]; omega
                · have l1 : decide (i < n - 1) = false := decide_eq_false hlt
                  have hin : i = n - 1 := by omega
                  subst hin
                  obtain ⟨t, ht⟩ : ∃ t, n / 2 = t := ⟨_, rfl⟩
                  have t1 : 1 ≤ t := by omega
                  have t2 : t < n := by omega
                  have q0 : (n : Int) / 2 = (t : Int) := by omega
                  have q2 : IntKind.i64.wrap ((t : Int) - 1) = ((t - 1 : Nat) : Int) := by rw [IntKind.wrap_i64]; omega
                  have q3 : ((t - 1 : Nat) : Int) < ((n - 1 : Nat) : Int) := by omega
                  have q4 : (0 : Int) ≤ ((t - 1 : Nat) : Int) := by omega
                  obtain ⟨g, cO, ev, hcO⟩ := hq.out.off (offs_len q (n - 1)) (by omega)
                  subst ev
                  have c0 := kb_cell hq.out.q (i := 1) (v := .slice (some ⟨g, 0, none⟩) (n - 1) cO) rfl
                  obtain ⟨f0, y0, c1⟩ := hq.out.frz (offs_len q (n - 1)) (t - 1) (by omega)
                  have st : (store ⟨g, t - 1, none⟩ (.float .f64 0)).run Tryd.prog wr = .ok () (wr.setCell ⟨g, t - 1, none⟩ (.float .f64 0)) := by rw [run_store Tryd.prog wr ⟨g, t - 1, none⟩ (.float .f64 0) .plain rfl]; simp only [c1, f0]; rfl
                  have hL3 := hq.out.setO (offs_len q (n - 1)) (k := t - 1) (y := 0)
                  have HL3 := Lib.hid hL3
                  have HCO := Lib.hid hcO
                  have s1 := Fl.top AD2 n nD2 t (by have := HD2.out; omega)
                  have s2 := Fl.top (some ⟨g, 0, none⟩) (n - 1) cO (t - 1) (by omega)
                  obtain ⟨A2, n2, s3, x3, y3⟩ := Fl.low AD2 n nD2 t (by omega) HD2.out
                  obtain ⟨A3, n3, s4, x4, y4⟩ := Fl.low (some ⟨g, 0, none⟩) (n - 1) cO t (by omega) hcO
                  have X3 := Lib.hid x3
                  have X4 := Lib.hid x4
                  have Y3 := Lib.hid y3
                  have Y4 := Lib.hid y4
                  have T1 := Lib.hid t1
                  have T2 := Lib.hid t2
                  clear hlt l1 hcO x3 x4 y3 y4 t1 ht hq
                  go_wp2
                  obtain ⟨w3, hw3⟩ : ∃ w, wr.setCell ⟨g, t - 1, none⟩ (.float .f64 0) = w := ⟨_, rfl⟩
                  rw [hw3] at HL3
                  simp only [hw3]
                  clear c0 c1 f0 hL3 hw3 st
                  have hS : w3.drew.cell? ⟨bq, 0, none⟩ = some (.slice AD2 n nD2) ∧ w3.drew.cell? ⟨bq, 1, none⟩ = some (.slice (some ⟨g, 0, none⟩) (n - 1) cO) := ⟨kb_cell HL3.out.drew.q (i := 0) rfl, kb_cell HL3.out.drew.q (i := 1) rfl⟩
                  refine wp_region_G (g := 11) (S := fun w' => w'.cell? ⟨bq, 0, none⟩ = some (.slice AD2 n nD2) ∧ w'.cell? ⟨bq, 1, none⟩ = some (.slice (some ⟨g, 0, none⟩) (n - 1) cO)) (by kernel_rfl) ?_
                  (refine wpG_take (i := 0) (v := ?_) rfl rfl (by kernel_rfl) (by kernel_rfl) (by kernel_rfl) (fun _ _ _ h => h) (Or.inl ⟨by rfl, fun w => ?_⟩) (Or.inr hS) ?_; rotate_left; focus (go_simp; first | done | with_reducible rfl | exact rfl)); (try simp only [Act.put, List.setIfInBounds_toArray, List.set_cons_zero, List.set_cons_succ, List.getElem_toArray, List.getElem_cons_zero, List.getElem_cons_succ])
                  (refine wpG_ldC (i := 1) [3, 9, 11] (v := ?_) rfl rfl (by kernel_rfl) (by kernel_rfl) (by kernel_rfl) (by kernel_rfl) (fun _ _ _ h => h) (Or.inl ⟨by rfl, ?_⟩) hS ?_; rotate_left; focus (intro w hSw; (try dsimp only at hSw); go_simp; first | done | with_reducible rfl | exact rfl)); (try simp only [Act.put, List.setIfInBounds_toArray, List.set_cons_zero, List.set_cons_succ, List.getElem_toArray, List.getElem_cons_zero, List.getElem_cons_succ])
                  (refine wpG_take (i := 2) (v := ?_) rfl rfl (by kernel_rfl) (by kernel_rfl) (by kernel_rfl) (fun _ _ _ h => h) (Or.inl ⟨by rfl, fun w => ?_⟩) (Or.inr hS) ?_; rotate_left; focus (go_simp; first | done | with_reducible rfl | exact rfl)); (try simp only [Act.put, List.setIfInBounds_toArray, List.set_cons_zero, List.set_cons_succ, List.getElem_toArray, List.getElem_cons_zero, List.getElem_cons_succ]); (refine wpG_take (i := 3) (v := ?_) rfl rfl (by kernel_rfl) (by kernel_rfl) (by kernel_rfl) (fun _ _ _ h => h) (Or.inl ⟨by rfl, fun w => ?_⟩) (Or.inr hS) ?_; rotate_left; focus (go_simp; first | done | with_reducible rfl | exact rfl)); (try simp only [Act.put, List.setIfInBounds_toArray, List.set_cons_zero, List.set_cons_succ, List.getElem_toArray, List.getElem_cons_zero, List.getElem_cons_succ]); (refine wpG_take (i := 4) (v := ?_) rfl rfl (by kernel_rfl) (by kernel_rfl) (by kernel_rfl) (fun _ _ _ h => h) (Or.inl ⟨by rfl, fun w => ?_⟩) (Or.inr hS) ?_; rotate_left; focus (go_simp; first | done | with_reducible rfl | exact rfl)); (try simp only [Act.put, List.setIfInBounds_toArray, List.set_cons_zero, List.set_cons_succ, List.getElem_toArray, List.getElem_cons_zero, List.getElem_cons_succ])
                  (refine wpG_ldC (i := 5) [8, 9, 11] (v := ?_) rfl rfl (by kernel_rfl) (by kernel_rfl) (by kernel_rfl) (by kernel_rfl) (fun _ _ _ h => h) (Or.inl ⟨by rfl, ?_⟩) hS ?_; rotate_left; focus (intro w hSw; (try dsimp only at hSw); go_simp; first | done | with_reducible rfl | exact rfl)); (try simp only [Act.put, List.setIfInBounds_toArray, List.set_cons_zero, List.set_cons_succ, List.getElem_toArray, List.getElem_cons_zero, List.getElem_cons_succ])
                  (refine wpG_take (i := 6) (v := ?_) rfl rfl (by kernel_rfl) (by kernel_rfl) (by kernel_rfl) (fun _ _ _ h => h) (Or.inl ⟨by rfl, fun w => ?_⟩) (Or.inr hS) ?_; rotate_left; focus (go_simp; first | done | with_reducible rfl | exact rfl)); (try simp only [Act.put, List.setIfInBounds_toArray, List.set_cons_zero, List.set_cons_succ, List.getElem_toArray, List.getElem_cons_zero, List.getElem_cons_succ]); (refine wpG_take (i := 7) (v := ?_) rfl rfl (by kernel_rfl) (by kernel_rfl) (by kernel_rfl) (fun _ _ _ h => h) (Or.inl ⟨by rfl, fun w => ?_⟩) (Or.inr hS) ?_; rotate_left; focus (go_simp; first | done | with_reducible rfl | exact rfl)); (try simp only [Act.put, List.setIfInBounds_toArray, List.set_cons_zero, List.set_cons_succ, List.getElem_toArray, List.getElem_cons_zero, List.getElem_cons_succ]); (refine wpG_take (i := 8) (v := ?_) rfl rfl (by kernel_rfl) (by kernel_rfl) (by kernel_rfl) (fun _ _ _ h => h) (Or.inl ⟨by rfl, fun w => ?_⟩) (Or.inr hS) ?_; rotate_left; focus (go_simp; first | done | with_reducible rfl | exact rfl)); (try simp only [Act.put, List.setIfInBounds_toArray, List.set_cons_zero, List.set_cons_succ, List.getElem_toArray, List.getElem_cons_zero, List.getElem_cons_succ]); (refine wpG_take (i := 9) (v := ?_) rfl rfl (by kernel_rfl) (by kernel_rfl) (by kernel_rfl) (fun _ _ _ h => h) (Or.inl ⟨by rfl, fun w => ?_⟩) (Or.inr hS) ?_; rotate_left; focus (go_simp; first | done | with_reducible rfl | exact rfl)); (try simp only [Act.put, List.setIfInBounds_toArray, List.set_cons_zero, List.set_cons_succ, List.getElem_toArray, List.getElem_cons_zero, List.getElem_cons_succ])
                  refine wpG_one (i := 10) (by kernel_rfl) rfl (fun K hK => ?_); have HK := Lib.hid hK; clear hK
                  go_simp
                  refine HK.out _ _ (Or.inr ⟨kb_cell (HL3.out.below (w' := (w3.alloc nilC).drew) (bl_drew (bl_alloc (Below.refl _ _) _))).q (i := 0) rfl, kb_cell (HL3.out.below (w' := (w3.alloc nilC).drew) (bl_drew (bl_alloc (Below.refl _ _) _))).q (i := 1) rfl⟩) ?_
                  clear HK K hS
                  (try simp only [Act.put, List.setIfInBounds_toArray, List.set_cons_zero, List.set_cons_succ, List.getElem_toArray, List.getElem_cons_zero, List.getElem_cons_succ])
                  have kN := kb_new (w := w3) (o := nilC) (bl_drew (Below.refl _ _))
                  have f0 := kb_frozen kN 0
                  have f1 := kb_frozen kN 1
                  have c0 := kb_cell kN (i := 0) rfl
                  have c1 := kb_cell kN (i := 1) rfl
                  refine wpG_one (i := 11) (by kernel_rfl) rfl (fun K hK => ?_); have HK := Lib.hid hK; clear hK; go_simp; refine HK.out _ _ (Or.inl (by kernel_rfl)) ?_; clear HK K; (try simp only [Act.put, List.setIfInBounds_toArray, List.set_cons_zero, List.set_cons_succ, List.getElem_toArray, List.getElem_cons_zero, List.getElem_cons_succ])
                  refine wpG_done (by kernel_rfl) ?_ _
                  have HL4 := Lib.hid (HL3.out.below (w' := (w3.alloc (.cells #[.slice AD2 t nD2, .slice (some ⟨g, 0, none⟩) (t - 1) cO] 24)).drew) (bl_drew (bl_alloc (Below.refl _ _) _)))
                  have HK4 := Lib.hid (kb_new (w := w3) (o := .cells #[.slice AD2 t nD2, .slice (some ⟨g, 0, none⟩) (t - 1) cO] 24) (bl_drew (Below.refl _ _)))
                  obtain ⟨w4, hw4⟩ : ∃ w, (w3.alloc (.cells #[.slice AD2 t nD2, .slice (some ⟨g, 0, none⟩) (t - 1) cO] 24)).drew = w := ⟨_, rfl⟩
                  obtain ⟨b1, hb1⟩ : ∃ b, w3.heap.size = b := ⟨_, rfl⟩
                  rw [hw4] at HL4 HK4
                  simp only [hb1] at HK4
                  simp only [hw4, hb1]
                  clear hw4 hb1 kN f0 f1 c0 c1
                  go_wp2
                  have hS : w4.drew.cell? ⟨bq, 0, none⟩ = some (.slice AD2 n nD2) ∧ w4.drew.cell? ⟨bq, 1, none⟩ = some (.slice (some ⟨g, 0, none⟩) (n - 1) cO) := ⟨kb_cell HL4.out.drew.q (i := 0) rfl, kb_cell HL4.out.drew.q (i := 1) rfl⟩
                  refine wp_region_G (g := 10) (S := fun w' => w'.cell? ⟨bq, 0, none⟩ = some (.slice AD2 n nD2) ∧ w'.cell? ⟨bq, 1, none⟩ = some (.slice (some ⟨g, 0, none⟩) (n - 1) cO)) (by kernel_rfl) ?_
                  (refine wpG_take (i := 0) (v := ?_) rfl rfl (by kernel_rfl) (by kernel_rfl) (by kernel_rfl) (fun _ _ _ h => h) (Or.inl ⟨by rfl, fun w => ?_⟩) (Or.inr hS) ?_; rotate_left; focus (go_simp; first | done | with_reducible rfl | exact rfl)); (try simp only [Act.put, List.setIfInBounds_toArray, List.set_cons_zero, List.set_cons_succ, List.getElem_toArray, List.getElem_cons_zero, List.getElem_cons_succ])
                  (refine wpG_ldC (i := 1) [3, 8, 10] (v := ?_) rfl rfl (by kernel_rfl) (by kernel_rfl) (by kernel_rfl) (by kernel_rfl) (fun _ _ _ h => h) (Or.inl ⟨by rfl, ?_⟩) hS ?_; rotate_left; focus (intro w hSw; (try dsimp only at hSw); go_simp; first | done | with_reducible rfl | exact rfl)); (try simp only [Act.put, List.setIfInBounds_toArray, List.set_cons_zero, List.set_cons_succ, List.getElem_toArray, List.getElem_cons_zero, List.getElem_cons_succ])
                  (refine wpG_take (i := 2) (v := ?_) rfl rfl (by kernel_rfl) (by kernel_rfl) (by kernel_rfl) (fun _ _ _ h => h) (Or.inl ⟨by rfl, fun w => ?_⟩) (Or.inr hS) ?_; rotate_left; focus (go_simp; first | done | with_reducible rfl | exact rfl)); (try simp only [Act.put, List.setIfInBounds_toArray, List.set_cons_zero, List.set_cons_succ, List.getElem_toArray, List.getElem_cons_zero, List.getElem_cons_succ]); (refine wpG_take (i := 3) (v := ?_) rfl rfl (by kernel_rfl) (by kernel_rfl) (by kernel_rfl) (fun _ _ _ h => h) (Or.inl ⟨by rfl, fun w => ?_⟩) (Or.inr hS) ?_; rotate_left; focus (go_simp; first | done | with_reducible rfl | exact rfl)); (try simp only [Act.put, List.setIfInBounds_toArray, List.set_cons_zero, List.set_cons_succ, List.getElem_toArray, List.getElem_cons_zero, List.getElem_cons_succ]); (refine wpG_take (i := 4) (v := ?_) rfl rfl (by kernel_rfl) (by kernel_rfl) (by kernel_rfl) (fun _ _ _ h => h) (Or.inl ⟨by rfl, fun w => ?_⟩) (Or.inr hS) ?_; rotate_left; focus (go_simp; first | done | with_reducible rfl | exact rfl)); (try simp only [Act.put, List.setIfInBounds_toArray, List.set_cons_zero, List.set_cons_succ, List.getElem_toArray, List.getElem_cons_zero, List.getElem_cons_succ])
                  (refine wpG_ldC (i := 5) [7, 8, 10] (v := ?_) rfl rfl (by kernel_rfl) (by kernel_rfl) (by kernel_rfl) (by kernel_rfl) (fun _ _ _ h => h) (Or.inl ⟨by rfl, ?_⟩) hS ?_; rotate_left; focus (intro w hSw; (try dsimp only at hSw); go_simp; first | done | with_reducible rfl | exact rfl)); (try simp only [Act.put, List.setIfInBounds_toArray, List.set_cons_zero, List.set_cons_succ, List.getElem_toArray, List.getElem_cons_zero, List.getElem_cons_succ])
                  (refine wpG_take (i := 6) (v := ?_) rfl rfl (by kernel_rfl) (by kernel_rfl) (by kernel_rfl) (fun _ _ _ h => h) (Or.inl ⟨by rfl, fun w => ?_⟩) (Or.inr hS) ?_; rotate_left; focus (go_simp; first | done | with_reducible rfl | exact rfl)); (try simp only [Act.put, List.setIfInBounds_toArray, List.set_cons_zero, List.set_cons_succ, List.getElem_toArray, List.getElem_cons_zero, List.getElem_cons_succ]); (refine wpG_take (i := 7) (v := ?_) rfl rfl (by kernel_rfl) (by kernel_rfl) (by kernel_rfl) (fun _ _ _ h => h) (Or.inl ⟨by rfl, fun w => ?_⟩) (Or.inr hS) ?_; rotate_left; focus (go_simp; first | done | with_reducible rfl | exact rfl)); (try simp only [Act.put, List.setIfInBounds_toArray, List.set_cons_zero, List.set_cons_succ, List.getElem_toArray, List.getElem_cons_zero, List.getElem_cons_succ]); (refine wpG_take (i := 8) (v := ?_) rfl rfl (by kernel_rfl) (by kernel_rfl) (by kernel_rfl) (fun _ _ _ h => h) (Or.inl ⟨by rfl, fun w => ?_⟩) (Or.inr hS) ?_; rotate_left; focus (go_simp; first | done | with_reducible rfl | exact rfl)); (try simp only [Act.put, List.setIfInBounds_toArray, List.set_cons_zero, List.set_cons_succ, List.getElem_toArray, List.getElem_cons_zero, List.getElem_cons_succ])
                  refine wpG_one (i := 9) (by kernel_rfl) rfl (fun K hK => ?_); have HK := Lib.hid hK; clear hK
                  go_simp
                  refine HK.out _ _ (Or.inr ⟨kb_cell (HL4.out.below (w' := (w4.alloc nilC).drew) (bl_drew (bl_alloc (Below.refl _ _) _))).q (i := 0) rfl, kb_cell (HL4.out.below (w' := (w4.alloc nilC).drew) (bl_drew (bl_alloc (Below.refl _ _) _))).q (i := 1) rfl⟩) ?_
                  clear HK K hS
                  (try simp only [Act.put, List.setIfInBounds_toArray, List.set_cons_zero, List.set_cons_succ, List.getElem_toArray, List.getElem_cons_zero, List.getElem_cons_succ])
                  have kN := kb_new (w := w4) (o := nilC) (bl_drew (Below.refl _ _))
                  have f0 := kb_frozen kN 0
                  have f1 := kb_frozen kN 1
                  have c0 := kb_cell kN (i := 0) rfl
                  have c1 := kb_cell kN (i := 1) rfl
                  refine wpG_one (i := 10) (by kernel_rfl) rfl (fun K hK => ?_); have HK := Lib.hid hK; clear hK; go_simp; refine HK.out _ _ (Or.inl (by kernel_rfl)) ?_; clear HK K; (try simp only [Act.put, List.setIfInBounds_toArray, List.set_cons_zero, List.set_cons_succ, List.getElem_toArray, List.getElem_cons_zero, List.getElem_cons_succ])
                  refine wpG_done (by kernel_rfl) ?_ _
                  obtain ⟨O, hO⟩ : ∃ O, (offs q (n - 1)).set (t - 1) 0 = O := ⟨_, rfl⟩
                  have OL : O.length = n - 1 := by rw [← hO]; simp [offs_len]
                  have WO : ∀ y ∈ O, W64 y ∧ rg y ≤ 6858982232485265408 := fun y hy => by
                    rw [← hO] at hy
                    rcases List.mem_or_eq_of_mem_set hy with hy | rfl
                    · unfold offs at hy
                      obtain ⟨i, _, rfl⟩ := List.mem_map.1 hy
                      obtain ⟨h1, h2⟩ := offAt_ok q WQ.out i
                      exact ⟨h1, by omega⟩
                    · exact ⟨zeroW, by decide⟩
                  have WD : ∀ y ∈ D, W64 y := fun y hy => WP.out y (by rw [← HD.out] at hy; exact List.mem_of_mem_take hy)
                  have RD : ∀ y ∈ D, rg y ≤ 6858982232485265408 := (rightB_d HR.out).2.2.2.1
                  have L5 := (HL4.out.below (w' := (w4.alloc (.cells #[.slice A2 (n - t) n2, .slice A3 (n - 1 - t) n3] 24)).drew) (bl_drew (bl_alloc (Below.refl _ _) _)))
                  rw [hO] at L5
                  obtain ⟨p1, p2, p3, p4⟩ := parted (x := x) T1.out (by rw [DL.out]; exact T2.out) (by rw [DL.out]; omega) (by rw [offs_len, DL.out]; have := T2.out; omega) RD (fun y hy => by unfold offs at hy; obtain ⟨i, _, rfl⟩ := List.mem_map.1 hy; obtain ⟨h1, h2⟩ := offAt_ok q WQ.out i; omega) XR.out (O := offs q (n - 1))
                  rw [hO] at p1 p2 p3 p4
                  obtain ⟨a2, a3⟩ := right_of (D := D) (O := O) (x := x) (by rw [DL.out]; omega) (by rw [DL.out]; omega) (by rw [OL, DL.out]; omega) RD (fun y hy => (WO y hy).2) XR.out
                  have r1 := St.cnt_range (val x) (D.map val) (O.map val)
                  rw [← a3, List.length_map, DL.out] at r1
                  have K5 := kb_keep (bl_drew (bl_alloc (Below.refl _ _) (.cells #[.slice A2 (n - t) n2, .slice A3 (n - 1 - t) n3] 24))) HK4.out
                  have M5 := kb_new (w := w4) (o := .cells #[.slice A2 (n - t) n2, .slice A3 (n - 1 - t) n3] 24) (bl_drew (Below.refl _ _))
                  obtain ⟨w5, hw5⟩ : ∃ w, (w4.alloc (.cells #[.slice A2 (n - t) n2, .slice A3 (n - 1 - t) n3] 24)).drew = w := ⟨_, rfl⟩
                  obtain ⟨b2, hb2⟩ : ∃ b, w4.heap.size = b := ⟨_, rfl⟩
                  rw [hw5] at L5 K5 M5
                  simp only [hb2] at M5
                  simp only [hw5, hb2]
                  clear hw5 hb2 kN f0 f1 c0 c1
                  obtain ⟨AD', cD', ev, _, FD⟩ := ow_sl L5.d
                  rw [DL.out] at ev
                  have ev1 : AD2 = AD' := by injection ev
                  clear ev
                  subst ev1
                  obtain ⟨AO', cO', ev, _, FO⟩ := ow_sl L5.o
                  rw [OL] at ev
                  have ev1 : some (⟨g, 0, none⟩ : Addr) = AO' := by injection ev
                  clear ev
                  subst ev1
                  have T5 := HT.out.below L5.b
                  have l1 : (D.take t).length = t := by simp [DL.out]; have := T2.out; omega
                  have l2 : (O.take (t - 1)).length = t - 1 := by simp [OL]; have := T2.out; omega
                  have l3 : (D.drop t).length = n - t := by simp [DL.out]
                  have l4 : (O.drop t).length = n - 1 - t := by simp [OL]
                  have z0 : ∀ w, Below w5.heap.size w5 w → Calls Tryd.prog 15 #[.agg #[.slice AD2 n nD2, .slice (some ⟨g, 0, none⟩) (n - 1) cO], .float .f64 x] w fun e w' => e = .returned (.tuple #[.int .i64 (exactN D O x), .int .i64 0]) ∧ Below w.heap.size w w' := fun w h => by
                    have := exact_c AD2 (some ⟨g, 0, none⟩) nD2 cO D O x w (FD.below h) (FO.below h) (by rw [DL.out]; exact HD2.out) (by rw [OL]; exact HCO.out) WD (fun y hy => (WO y hy).1) HX.out (T5.below h)
                    rw [DL.out, OL, p1] at this
                    exact this
                  have z1 : ∀ w, Below w5.heap.size w5 w → Calls Tryd.prog 15 #[.agg #[.slice AD2 t nD2, .slice (some ⟨g, 0, none⟩) (t - 1) cO], .float .f64 x] w fun e w' => e = .returned (.tuple #[.int .i64 (exactN (D.take t) (O.take (t - 1)) x), .int .i64 0]) ∧ Below w.heap.size w w' := fun w h => by
                    have := exact_c AD2 (some ⟨g, 0, none⟩) nD2 cO (D.take t) (O.take (t - 1)) x w ((FD.below h).take_ t) ((FO.below h).take_ (t - 1)) (by rw [l1]; have := HD2.out; have := T2.out; omega) (by rw [l2]; have := HCO.out; have := T2.out; omega) (fun y hy => WD y (List.mem_of_mem_take hy)) (fun y hy => (WO y (List.mem_of_mem_take hy)).1) HX.out (T5.below h)
                    rw [l1, l2, p2] at this
                    exact this
                  have z2 : ∀ w, Below w5.heap.size w5 w → Calls Tryd.prog 15 #[.agg #[.slice A2 (n - t) n2, .slice A3 (n - 1 - t) n3], .float .f64 x] w fun e w' => e = .returned (.tuple #[.int .i64 (exactN (D.drop t) (O.drop t) x), .int .i64 0]) ∧ Below w.heap.size w w' := fun w h => by
                    have := exact_c A2 A3 n2 n3 (D.drop t) (O.drop t) x w (X3.out w D DL.out (FD.below h)) (X4.out w O OL (FO.below h)) (by rw [l3]; exact Y3.out) (by rw [l4]; exact Y4.out) (fun y hy => WD y (List.mem_of_mem_drop hy)) (fun y hy => (WO y (List.mem_of_mem_drop hy)).1) HX.out (T5.below h)
                    rw [l3, l4, p3] at this
                    exact this
                  obtain ⟨Y, hY⟩ : ∃ Y, exactN (D.take t) (O.take (t - 1)) x = Y := ⟨_, rfl⟩
                  obtain ⟨Z2, hZ2⟩ : ∃ Y, exactN (D.drop t) (O.drop t) x = Y := ⟨_, rfl⟩
                  rw [p4] at z0 r1
                  rw [hY] at z0 z1 r1
                  rw [hZ2] at z0 z2 r1
                  have E0 := Lib.hid z0
                  have E1 := Lib.hid z1
                  have E2 := Lib.hid z2
                  have q5 : IntKind.i64.wrap (Y + Z2) = Y + Z2 := by rw [IntKind.wrap_i64]; omega
                  have c0 := kb_cell L5.q (i := 0) rfl
                  have c1 := kb_cell L5.q (i := 1) rfl
                  have c2 := kb_cell K5 (i := 0) rfl
                  have c3 := kb_cell K5 (i := 1) rfl
                  have c4 := kb_cell M5 (i := 0) rfl
                  have c5 := kb_cell M5 (i := 1) rfl
                  have P0 : Hid (PT W w5 bq b1 b2 #[.slice AD2 n nD2, .slice (some ⟨g, 0, none⟩) (n - 1) cO] #[.slice AD2 t nD2, .slice (some ⟨g, 0, none⟩) (t - 1) cO] #[.slice A2 (n - t) n2, .slice A3 (n - 1 - t) n3]) := Lib.hid ⟨L5.b, L5.q, K5, M5⟩
                  have B5 := Lib.hid (Below.refl w5.heap.size w5)
                  clear z0 z1 z2 hY hZ2 p1 p2 p3 p4 a2 a3 r1 l1 l2 l3 l4 L5 K5 M5 T5 FD FO WO WD RD OL hO s1 s2 s3 s4 q0 q2 q3 q4 e1 t2
                  go_wp2_with (first
                    | (go_at_call 15; (with_reducible (first | refine (E0.out _ B5.out).mono ?_ | refine (E1.out _ B5.out).mono ?_ | refine (E2.out _ B5.out).mono ?_)); rintro e w6 ⟨rfl, hb⟩; have B5 := Lib.hid (bl_then B5.out hb); have P0 := Lib.hid (P0.out.then hb); have c0 := kb_cell P0.out.k0 (i := 0) rfl; have c1 := kb_cell P0.out.k0 (i := 1) rfl; have c2 := kb_cell P0.out.k1 (i := 0) rfl; have c3 := kb_cell P0.out.k1 (i := 1) rfl; have c4 := kb_cell P0.out.k2 (i := 0) rfl; have c5 := kb_cell P0.out.k2 (i := 1) rfl; clear hb))
                  go_ret
                  exact ⟨by simp, by first | exact P0.out.b | exact bl_drewN P0.out.b _⟩
      · have e2 : exactN D Z x = 0 := if_neg he
        have e3 : countN D Z x = 0 := if_neg he
        have k2 : (wrongE D Z x != 0) = true := by simpa using he
        rw [e2] at ec
        rw [e3] at kc
        obtain ⟨E, hE⟩ : ∃ E, wrongE D Z x = E := ⟨_, rfl⟩
        rw [hE] at ec kc k2
        have EC := Lib.hid ec
        have KC := Lib.hid kc
        clear ec kc hE he e2 e3 wD wZ hx hT hp wp hq wq mk
        go_wp2_with (first
          | (go_at_call 15; (with_reducible refine (EC.out _ B0.out G1.out).mono ?_); rintro e w2 ⟨rfl, hb⟩; have B0 := Lib.hid (bl_then B0.out hb); have G1 := Lib.hid (G1.out.then hb); have cc0 := kb_cell G1.out.k (i := 0) rfl; have cc1 := kb_cell G1.out.k (i := 1) rfl; clear hb)
          | (go_at_call 14; (with_reducible refine (KC.out _ G1.out).mono ?_); rintro e w2 ⟨rfl, hb⟩; have B0 := Lib.hid (bl_then B0.out hb); have G1 := Lib.hid (G1.out.then hb); have cc0 := kb_cell G1.out.k (i := 0) rfl; have cc1 := kb_cell G1.out.k (i := 1) rfl; clear hb))
        go_ret
        exact ⟨rfl, by first | exact B0.out | exact bl_drewN B0.out _⟩
end Go.Proofs.YtfjiojdnbdfenaaDoor


/- The frame of the rows of this seat: the one listed variable (math/bits' table) as cells; a start that fits. -/
namespace Go.Proofs.YtfjiojdnbdfenaaDoor
open Go Go.ChangeShapes Go.WideShapes Go.RowKit GFl
set_option maxRecDepth 100000

theorem Tryd.own : ownKnob Tryd.prog.godebug = none := by kernel_rfl
theorem w64_of {x : Nat} (h : (Lit.float .f64 x).wf = true) : W64 x := W64.mk (by simpa [Lit.wf] using h)
theorem i64_of {x : Int} (h : (Lit.int .i64 x).wf = true) : -9223372036854775808 ≤ x ∧ x ≤ 9223372036854775807 := by simpa [Lit.wf, IntKind.min, IntKind.max, IntKind.signed, IntKind.bits] using h
theorem no_standIn {ps : Array TypeId} {fn : Func} (h : fn.params = ps) (hall : (ps.toList.all fun t => !Tryd.prog.wantsStandIn t) = true) : ∀ (j : Nat) (t : TypeId), fn.params[j]? = some t → Tryd.prog.wantsStandIn t = false := by
  intro j t ht
  rw [h] at ht
  have hm : t ∈ ps.toList := by rw [Array.mem_toList_iff]; exact Array.mem_of_getElem? ht
  have := List.all_eq_true.1 hall t hm
  simpa using this
def tabZs : List Int := Lib.deBruijn64tab.map fun (n : Nat) => (n : Int)
def laidL : List (String × DataW Unit) := [("math/bits.deBruijn64tab", Rows.laid_math_bits_deBruijn64tab)]
theorem laidL_eq : laidL = ("math/bits.deBruijn64tab", Lib.tabData .u8 tabZs) :: [] := by kernel_rfl
theorem tab_named : Tryd.prog.globalNamed "math/bits.deBruijn64tab" = some 1 := by kernel_rfl
theorem tab_type : (Tryd.prog.globals[1]?).map (·.type) = some 114 := by kernel_rfl
theorem tab_of_laid {W : World} (h : laidMet Tryd.prog laidL W) : Tab W := by
  rw [laidL_eq] at h
  have ht := Lib.tabIs_of_head tab_named tab_type Tryd.underlying114 Tryd.underlying5 (by kernel_rfl) (by kernel_rfl) h
  intro j hj
  have hc := ht.cell tab_named j (by simpa [tabZs] using hj)
  rw [hc]
  congr 2
  simp [tabZs, List.getD, hj]

def tabCells : Array Value := (tabZs.map fun z => Value.int .u8 z).toArray
noncomputable def laidWorld (os : Os) : World :=
  { World.holding Tryd.prog os ⟨#[], #[], []⟩ with heap := (World.holding Tryd.prog os ⟨#[], #[], []⟩).heap.modify 1 fun
      | .cells _ t frozen => .cells tabCells t frozen
      | o => o }
theorem laidWorld_row (os : Os) (args : Array Value) : ((laidWorld os).forCall (fun _ _ => 0) ⟨#[], args, []⟩).memory.heap[1]? = some (.cells tabCells 114 (0, 0)) := by kernel_rfl
theorem tab_places : ((MemPlace.row ⟨1, 0, none⟩ tabCells.size ++ ([] : List MemPlace) ++ []).Nodup) := by decide
theorem laidWorld_met (os : Os) (args : Array Value) : laidMet Tryd.prog laidL ((laidWorld os).forCall (fun _ _ => 0) ⟨#[], args, []⟩).memory := by
  refine ⟨_, ⟨1, 114, tabCells, 8, [], [], by kernel_rfl, by kernel_rfl, by kernel_rfl, by kernel_rfl, rfl, rfl⟩, tab_places, fun b off h => ?_⟩
  have h' : MemPlace.cell b off ∈ (MemPlace.row ⟨1, 0, none⟩ tabCells.size : List MemPlace) := by simpa using h
  have hall : (MemPlace.row ⟨1, 0, none⟩ tabCells.size : List MemPlace).all (fun p => match p with | .cell b _ => b == 1 | _ => false) = true := by decide
  have hb := List.all_eq_true.1 hall _ h'
  obtain rfl : b = 1 := by simpa using hb
  refine ⟨⟨_, _, laidWorld_row os args⟩, fun u v hc => ?_⟩
  exfalso
  simp only [World.cell?, laidWorld_row os args] at hc
  have hc' : tabCells[off]? = some (.iface u v) := by simpa using hc
  unfold tabCells at hc'
  simp at hc'
end Go.Proofs.YtfjiojdnbdfenaaDoor


/- Lists of floats, chains and lists of small numbers as arguments of a row: opened. -/
namespace Go.Proofs.YtfjiojdnbdfenaaDoor
open Go Go.ChangeShapes Go.WideShapes Go.RowKit Go.Deep GFl
open Go.Proofs.YtfjiojdnbdfenaaDoorW.PrintWords (Kd)
set_option maxRecDepth 100000

theorem jk_laidOut : laidOutB Tryd.prog = true := by kernel_rfl
theorem rs_rec1 : Tryd.prog.readableRec 22 = true := by kernel_rfl
theorem rs_row1 : (22 : TypeId) < Tryd.prog.types.size := of_decide_eq_true (by kernel_rfl)
theorem rs_rec2 : Tryd.prog.readableRec 24 = true := by kernel_rfl
theorem rs_row2 : (24 : TypeId) < Tryd.prog.types.size := of_decide_eq_true (by kernel_rfl)
theorem rs_cf : Tryd.prog.cellsOf 25 = 1 := by kernel_rfl
theorem rs_cc : Tryd.prog.cellsOf 24 = 2 := by kernel_rfl
theorem rs_cs : Tryd.prog.cellsOf 22 = 1 := by kernel_rfl
theorem list_of {α : Type} {p : Nat → α → Prop} : ∀ n, (∀ i, i < n → ∃ j, p i j) → ∃ l : List α, l.length = n ∧ ∀ i j, l[i]? = some j → p i j
  | 0, _ => ⟨[], rfl, fun i j h => by simp at h⟩
  | n + 1, h => by
    obtain ⟨l, hl, hp⟩ := list_of n (fun i hi => h i (by omega))
    obtain ⟨j, hj⟩ := h n (by omega)
    refine ⟨l ++ [j], by simp [hl], fun i x hx => ?_⟩
    rcases Nat.lt_or_ge i l.length with hi | hi
    · rw [List.getElem?_append_left hi] at hx; exact hp i x hx
    · rw [List.getElem?_append_right hi] at hx
      have e : i - l.length = 0 := by
        have := (List.getElem?_eq_some_iff.1 hx).1
        simp at this; omega
      rw [e] at hx
      have : x = j := by simpa using hx.symm
      subst this
      have : i = n := by omega
      subst this; exact hj
section
variable {H : Type} {enc : TypeId × Value → H} {P : Program} {w : World} {base : Nat} {spare : Nat → Bool} {held : Bool}
theorem trod_flt {k : FloatKind} {t : TypeId} {fuel : Nat} {cs : List Value} {x : DataW H × List MemPlace} (ht : P.underlying t = some (.float k)) (h : DataW.trod enc P w base spare held fuel t cs = some x) : ∃ n, cs = [.float k n] ∧ (Lit.float k n).wf = true := by
  cases fuel with
  | zero => simp [DataW.trod] at h
  | succ n =>
    unfold DataW.trod at h
    rw [ht] at h
    split at h <;> simp_all
end
section
variable {H : Type} {enc : TypeId × Value → H} {w : World} {base : Nat} {spare : Nat → Bool} {held : Bool}
theorem open_fls {fuel : Nat} {c : Value} {x : DataW H × List MemPlace} (h : DataW.trod enc Tryd.prog w base spare held fuel 22 [c] = some x) :
    ∃ (A : Option Addr) (cap : Nat) (l : List Nat), c = .slice A l.length cap ∧ l.length ≤ cap ∧ Fl w A l ∧ (∀ y ∈ l, W64 y) ∧ (A = none → cap = 0 ∧ l = []) := by
  rcases open_slice1 Tryd.underlying22 rs_cf h with ⟨hc, _⟩ | ⟨ad, len, cap, m, n, V, D, Pl, hc, hb, hl, hm, hmm, _, hi⟩
  · have hc : c = .slice none 0 0 := by simpa using hc
    subst hc
    exact ⟨none, 0, [], rfl, Nat.le_refl _, Fl.mk (by simp) (fun h => by simp at h), fun y hy => (by cases hy), fun _ => ⟨rfl, rfl⟩⟩
  · have hc : c = .slice (some ad) len cap := by simpa using hc
    subst hc
    have hlm : len ≤ m := by rw [hmm]; split <;> omega
    obtain ⟨l, hll, hp⟩ := list_of (p := fun i y => w.cell? (ad.add i) = some (.float .f64 y) ∧ W64 y) len (fun i hil => by
      obtain ⟨hc, ht⟩ := hi i (by omega)
      obtain ⟨y, he, hw⟩ := trod_flt Tryd.underlying25 ht
      have he : V i = .float .f64 y := by simpa using he
      exact ⟨y, by rw [hc, he], w64_of hw⟩)
    subst hll
    have hmx : cap ≤ 9223372036854775807 := hm
    refine ⟨some ad, cap, l, rfl, hl, Fl.mk (by omega) (fun _ => ⟨ad, rfl, fun i hi => (hp i _ (List.getElem?_eq_getElem hi)).1⟩), fun y hy => ?_, fun h => by cases h⟩
    obtain ⟨i, hi1, rfl⟩ := List.getElem_of_mem hy
    exact (hp i _ (List.getElem?_eq_getElem hi1)).2
theorem open_reals {r : Reach} {b0 : Nat} {v : Value} {d : DataW H} {p : List MemPlace} (hv : Value.okWide Tryd.prog w r b0 22 v) (h : DataW.Trod enc Tryd.prog w base spare held 22 v d p) :
    ∃ (A : Option Addr) (cap : Nat) (l : List Nat), v = .slice A l.length cap ∧ l.length ≤ cap ∧ Fl w A l ∧ (∀ y ∈ l, W64 y) ∧ (A = none → cap = 0 ∧ l = []) := by
  obtain ⟨a, len, cap, rfl⟩ := okWide_slice Tryd.underlying22 hv
  obtain ⟨fuel, hf⟩ := h
  exact open_fls hf
theorem open_chain {r : Reach} {b0 : Nat} {v : Value} {d : DataW H} {p : List MemPlace} (hv : Value.okWide Tryd.prog w r b0 24 v) (h : DataW.Trod enc Tryd.prog w base spare held 24 v d p) :
    ∃ (A B : Option Addr) (cA cB : Nat) (l m : List Nat), v = .agg #[.slice A l.length cA, .slice B m.length cB] ∧ l.length ≤ cA ∧ m.length ≤ cB ∧ Fl w A l ∧ Fl w B m ∧ (∀ y ∈ l, W64 y) ∧ (∀ y ∈ m, W64 y) ∧ (A = none → cA = 0 ∧ l = []) ∧ (B = none → cB = 0 ∧ m = []) := by
  obtain ⟨cs, rfl, _⟩ := okWide_struct Tryd.underlying24 hv
  obtain ⟨fuel, h⟩ := h
  obtain ⟨xs, n, _, hx, hlen, hxl, hf⟩ := DataW.trod_struct Tryd.underlying24 h
  rw [rs_cc] at hlen
  obtain ⟨cs⟩ := cs
  change cs.length = 2 at hlen
  match cs, hlen with
  | [c0, c1], _ =>
    have h0 := hf 0 _ rfl
    have h1 := hf 1 _ rfl
    have hs : xs.length = 2 := hxl
    have g0 : DataW.trod enc Tryd.prog w base spare held n 22 [c0] = xs[0]? := h0
    have g1 : DataW.trod enc Tryd.prog w base spare held n 22 [c1] = xs[1]? := h1
    rw [List.getElem?_eq_getElem (by omega)] at g0 g1
    obtain ⟨A, cA, l, rfl, j1, j2, j3, j4⟩ := open_fls g0
    obtain ⟨B, cB, m, rfl, k1, k2, k3, k4⟩ := open_fls g1
    exact ⟨A, B, cA, cB, l, m, rfl, j1, k1, j2, k2, j3, k3, j4, k4⟩
end
end Go.Proofs.YtfjiojdnbdfenaaDoor


/- girder/girderlaw17.SturmParts answers true for every input, and leaves each argument as it was: the table of math/bits is tied to the program's text.
 Conditions: none of its own. -/
namespace Go.Proofs.YtfjiojdnbdfenaaDoor
open Go Go.ChangeShapes Go.WideShapes Go.RowKit GFl

set_option maxRecDepth 100000 in
theorem sturmParts_lifted (os : Os) (started : os.Started) (H : Type) (enc : TypeId × Value → H) :
    ReturnsInHanded {} Tryd.checked os 7 .any (fun w args => (Rows.sturmPartsSpec.pre enc Tryd.prog Tryd.f7 [] false w args ∧ laidMet Tryd.prog laidL w) ∧ sizedMet enc Tryd.prog Tryd.f7 (OpenSpec.ofChange Rows.sturmPartsSpec) false w args) (Rows.sturmPartsSpec.post enc Tryd.prog Tryd.f7 false true false false) := by
  refine returnsInHanded_of_change_and (C := Tryd.checked) (X := fun w _ => laidMet Tryd.prog laidL w) (fun _ _ _ hh h => h.of_heap hh) Tryd.own started (by kernel_rfl) Tryd.func7
    (ChangeSpec.witness_at (enc := enc) (C := Tryd.checked) (os := os) (X := fun w _ => laidMet Tryd.prog laidL w) false (laidWorld os) #[.slice none 0 0, .slice none 0 0, .float .f64 0] 8 rfl (by kernel_rfl) (by kernel_rfl) (by kernel_rfl) (by kernel_rfl) (by kernel_rfl) (laidWorld_met os _)) ?_
  intro W base args ds gs before hval0 hW _ hsz hL _
  have hval : ∀ (j : Nat) t v, Tryd.f7.params[j]? = some t → args[j]? = some v → Value.okWide Tryd.prog W .any base t v := hval0
  have hW' := hW
  obtain ⟨p, q, hA0, hV0, rfl, hfz, hnd⟩ := hW
  have hA : DataW.TrodAll enc Tryd.prog W 0 (fun _ => true) true Tryd.f7.params.toList args.toList ds p := hA0
  have hV : DataW.TrodVars enc Tryd.prog W (fun _ => true) [] gs q := hV0
  rw [Tryd.params7] at hA hval
  obtain ⟨v0, v1, v2, d0, d1, d2, p0, p1, p2, rfl, rfl, rfl, h0, h1, h2⟩ := trodAll_three hA
  have k0 := h0
  have lt0 : ∀ x ∈ p0, x.block < W.heap.size := by obtain ⟨m, hm⟩ := h0; exact DataW.trod_lt m _ _ _ hm
  obtain ⟨A0, c0, l0, rfl, hl0, hC0, wl0, hN0⟩ := open_reals (hval 0 22 v0 rfl rfl) h0
  have k1 := h1
  have lt1 : ∀ x ∈ p1, x.block < W.heap.size := by obtain ⟨m, hm⟩ := h1; exact DataW.trod_lt m _ _ _ hm
  obtain ⟨A1, c1, l1, rfl, hl1, hC1, wl1, hN1⟩ := open_reals (hval 1 22 v1 rfl rfl) h1
  obtain ⟨x2, rfl, rfl, rfl, wx2⟩ := open_float Tryd.underlying25 (hval 2 25 v2 rfl rfl) h2
  obtain ⟨rfl, rfl⟩ : gs = [] ∧ q = [] := by
    cases gs with
    | nil => exact ⟨rfl, hV⟩
    | cons g r => exact absurd hV (by intro h; cases h)
  have e1 : Rows.sturmPartsSpec.fn H ([d0, d1, .lit (.float .f64 x2)] ++ []) = { results := [.lit (.bool true)], args := [d0, d1, .lit (.float .f64 x2)] } := by simp [Rows.sturmPartsSpec]
  refine (sturmParts_c (W := W) A0 c0 l0 A1 c1 l1 x2 hl0 hC0 wl0 hl1 hC1 wl1 (w64_of wx2) (tab_of_laid hL)).mono fun e W' ⟨he, hb⟩ => ?_
  subst he
  refine ⟨_, rfl, _, _, _, [], p0 ++ (p1 ++ ([])), [], hW', ?_, ?_, ?_, hb.frame _, fun h => by cases h⟩
  · rw [e1]; exact trodAll_mk1 (shut_bool Tryd.underlying4 true)
  · rw [e1]; exact trodAll_mk3 (Below.trod jk_laidOut rs_rec1 rs_row1 k0 hb lt0) (Below.trod jk_laidOut rs_rec1 rs_row1 k1 hb lt1) (shut_float Tryd.underlying25 wx2)
  · rw [e1]; rfl

theorem sturmParts_holds : Rows.SturmPartsSaid :=
  OpenClaim.holds_of_wide 7 Tryd.f7 rfl rfl rfl rfl rfl rfl rfl ⟨rfl, rfl, rfl, rfl, rfl⟩ rfl rfl rfl rfl rfl (by kernel_rfl) Tryd.func7 (by kernel_rfl)
    (of_decide_eq_true (by kernel_rfl)) (by unfold Func.isWrapper; rw [if_neg (of_decide_eq_false (by kernel_rfl))]; exact ⟨rfl, rfl⟩)
    (fun os started H enc _ => sturmParts_lifted os started H enc)

theorem sturmParts_card_holds : Rows.SturmPartsCardSaid :=
  Claim7.holds_tied_plain_at .later [] [.data] true Rows.sturmPartsCard.stood.harness false
    sturmParts_holds (fun _ h => by cases h) (by kernel_rfl) (fun _ h => by cases h) sturmParts_row_tie rfl ⟨rfl, rfl⟩ (by kernel_rfl) rfl
    (fun f fn hf hfn => by
      obtain rfl : f = 7 := Option.some.inj ((show Tryd.prog.funcNamed "girder/girderlaw17.SturmParts" = some 7 by kernel_rfl).symm.trans hf) |>.symm
      obtain rfl : fn = Tryd.f7 := (Option.some.inj (Tryd.func7.symm.trans hfn)).symm
      exact ⟨by kernel_rfl, no_standIn Tryd.params7 (by kernel_rfl)⟩)
    (by kernel_rfl)
#print axioms sturmParts_card_holds
end Go.Proofs.YtfjiojdnbdfenaaDoor

