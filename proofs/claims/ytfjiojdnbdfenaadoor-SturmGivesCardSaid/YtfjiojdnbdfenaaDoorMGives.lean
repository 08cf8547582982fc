import Derived.Test.YtfjiojdnbdfenaaDoorMe
import Derived.Test.YtfjiojdnbdfenaaDoorMf
import Derived.Test.YtfjiojdnbdfenaaDoorMc
import Derived.ProofKit
import Derived.Lib.LaidTab
import Derived.SevenTiedAt
import Derived.JoinedOf
import Derived.ChangeSame
import Derived.ChangeVars
import Derived.Test.YtfjiojdnbdfenaaDoorMd
import Derived.Deep.Slices
import Derived.Deep.Fields
import Derived.Carry
import Derived.Test.YtfjiojdnbdfenaaDoorCards
import Derived.Test.YtfjiojdnbdfenaaDoorTie
/- What Find answers stands between the counts (plain). -/
namespace Go.Proofs.YtfjiojdnbdfenaaDoor
open Go Nv GFl
set_option maxRecDepth 100000


theorem atW_p {p : Int} (h1 : -6867989431740006400 ≤ p) (h2 : p ≤ 6867989431740006400) : plc (atW p) = p ∧ isn (atW p) = false ∧ placeF (atW p) = p := by
  obtain ⟨e1, e2, e3⟩ := atW_r h1 h2
  have hn : neg (atW p) = decide (p < 0) := by unfold atW; exact wd_neg (by omega)
  have h3 : plc (atW p) = p := by rw [plc_eq, hn, e1]; simp only [decide_eq_true_eq]; split <;> omega
  have h4 : isn (atW p) = false := by rw [isn_eq]; simp; omega
  refine ⟨h3, h4, ?_⟩
  unfold placeF
  rw [h4, h3]; rfl
theorem val_mono {x y : Nat} (h : plc x ≤ plc y) : val x ≤ val y := by
  rw [plc_eq, plc_eq] at h
  rw [val_eq', val_eq']
  have m1 : rg x ≤ rg y → mg B52 (rg x) ≤ mg B52 (rg y) := fun h => mg_mono B52_pos h
  have m2 : rg y ≤ rg x → mg B52 (rg y) ≤ mg B52 (rg x) := fun h => mg_mono B52_pos h
  have z1 : rg x = 0 → mg B52 (rg x) = 0 := fun h => by rw [h]; exact mg_zero _ B52_pos
  have z2 : rg y = 0 → mg B52 (rg y) = 0 := fun h => by rw [h]; exact mg_zero _ B52_pos
  generalize mg B52 (rg x) = a at *
  generalize mg B52 (rg y) = b at *
  cases hx : neg x <;> cases hy : neg y <;> simp only [hx, hy, if_true, if_false, Bool.false_eq_true] at h ⊢ <;> omega
theorem hlv_inv (T : Int → Bool) : ∀ (n : Nat) (a b : Int), a < b → b - a ≤ 2 ^ n → T a = false → T b = true → a ≤ (hlv T n a b).1 ∧ (hlv T n a b).2 = (hlv T n a b).1 + 1 ∧ (hlv T n a b).2 ≤ b ∧ T (hlv T n a b).1 = false ∧ T (hlv T n a b).2 = true := by
  intro n
  induction n with
  | zero =>
    intro a b h1 h2 ha hb
    simp at h2
    obtain rfl : b = a + 1 := by omega
    exact ⟨Int.le_refl _, rfl, Int.le_refl _, ha, hb⟩
  | succ n ih =>
    intro a b h1 h2 ha hb
    rw [Int.pow_succ] at h2
    generalize hp : (2 : Int) ^ n = p at *
    unfold hlv
    by_cases hg : 1 < b - a
    · rw [if_pos hg]
      cases hm : T (a + (b - a) / 2)
      · rw [if_neg (by simp)]
        have := ih (a + (b - a) / 2) b (by omega) (by omega) hm hb
        exact ⟨by omega, this.2.1, this.2.2.1, this.2.2.2⟩
      · rw [if_pos rfl]
        have := ih a (a + (b - a) / 2) (by omega) (by omega) ha hm
        exact ⟨this.1, this.2.1, by omega, this.2.2.2⟩
    · rw [if_neg hg]
      obtain rfl : b = a + 1 := by omega
      exact ⟨Int.le_refl _, rfl, Int.le_refl _, ha, hb⟩
theorem two64 : (2 : Int) ^ 64 = 18446744073709551616 := by decide
theorem val_cf {x : Nat} (h : rg x ≤ 6858982232485265408) : -(p2 1574 : Int) ≤ val x ∧ val x ≤ (p2 1574 : Int) := by
  have h1 := mg_mono (B := B52) B52_pos h
  rw [mg500] at h1
  have := natAbs_val x
  generalize mg B52 (rg x) = m at *
  generalize p2 1574 = q at *
  omega
theorem p2_pos (n : Nat) : 0 < p2 n := by rw [p2_def]; exact Nat.two_pow_pos n
theorem p2_1576 : p2 1576 = 4 * p2 1574 := by rw [show 1576 = 1574 + 1 + 1 from rfl, p2_suc, p2_suc]; omega
theorem mg_top : mg B52 6867989431740006400 = p2 1576 := by
  have : (6867989431740006400 : Nat) = 1525 * B52 + 0 := by decide
  rw [this, mg_B 1525 0 (by decide) (by decide)]
  have e : B52 + 0 = p2 52 := by rw [p2_def]
  rw [e, ← p2_add]
theorem val_top : val (atW 6867989431740006400) = (4 * (p2 1574 : Int)) ∧ val (atW (-6867989431740006400)) = -(4 * (p2 1574 : Int)) := by
  have e1 : atW 6867989431740006400 = wd false 6867989431740006400 := by decide
  have e2 : atW (-6867989431740006400) = wd true 6867989431740006400 := by decide
  rw [e1, e2, val_wd (by decide), val_wd (by decide), mg_top, p2_1576]
  simp
theorem cnt_ends {d o : List Nat} (hr : rightB d o = true) : St.cnt (val (atW (-6867989431740006400))) (d.map val) (o.map val) = 0 ∧ St.cnt (val (atW 6867989431740006400)) (d.map val) (o.map val) = (d.length : Int) := by
  obtain ⟨r1, r2, r3, r4, r5⟩ := rightB_d hr
  have hM : (0 : Int) < (p2 1574 : Int) := by have := p2_pos 1574; omega
  have hd : ∀ a ∈ d.map val, -(p2 1574 : Int) ≤ a ∧ a ≤ (p2 1574 : Int) := fun a ha => by
    obtain ⟨x, hx, rfl⟩ := List.mem_map.1 ha
    exact val_cf (r4 x hx)
  have ho : ∀ a ∈ o.map val, -(p2 1574 : Int) ≤ a ∧ a ≤ (p2 1574 : Int) := fun a ha => by
    obtain ⟨x, hx, rfl⟩ := List.mem_map.1 ha
    exact val_cf (r5 x hx)
  refine ⟨St.cnt_none hM hd ho ?_, ?_⟩
  · rw [val_top.2]; exact Int.le_refl _
  · have := St.cnt_all hM hd ho (x := val (atW 6867989431740006400)) (by rw [val_top.1]; exact Int.le_refl _)
    rw [this, List.length_map]
theorem over_mono {d o : List Nat} {k p q : Int} (hp : -6867989431740006400 ≤ p) (hpq : p ≤ q) (hq : q ≤ 6867989431740006400) (h : over d o k p = true) : over d o k q = true := by
  unfold over at *
  have h := of_decide_eq_true h
  have := St.cnt_mono (val_mono (x := atW p) (y := atW q) (by rw [(atW_p hp (by omega)).1, (atW_p (by omega) hq).1]; exact hpq)) (d.map val) (o.map val)
  exact decide_eq_true (by omega)
theorem find_good {d o : List Nat} {k : Int} (hr : rightB d o = true) (h0 : 0 ≤ k) (h1 : k < d.length) : ∃ P : Int, findE d o k = 0 ∧ findL d o k = atW P ∧ findH d o k = atW (P + 1) ∧ -6867989431740006400 ≤ P ∧ P + 1 ≤ 6867989431740006400 ∧ over d o k P = false ∧ over d o k (P + 1) = true := by
  have he : findE d o k = 0 := by unfold findE; rw [if_pos hr, if_neg (by omega), if_neg (by omega)]
  obtain ⟨c1, c2⟩ := cnt_ends hr
  have lo : over d o k (-6867989431740006400) = false := by unfold over; rw [c1]; exact decide_eq_false (by omega)
  have hi : over d o k 6867989431740006400 = true := by unfold over; rw [c2]; exact decide_eq_true (by omega)
  have el : findL d o k = atW (findP d o k).1 := if_pos he
  have eh : findH d o k = atW (findP d o k).2 := if_pos he
  have key : -6867989431740006400 ≤ (findP d o k).1 ∧ (findP d o k).2 = (findP d o k).1 + 1 ∧ (findP d o k).2 ≤ 6867989431740006400 ∧ over d o k (findP d o k).1 = false ∧ over d o k (findP d o k).2 = true := by
    unfold findP
    cases hz : over d o k 0
    · rw [if_neg (by simp)]
      have := hlv_inv (over d o k) 64 0 6867989431740006400 (by decide) (by rw [two64]; decide) hz hi
      exact ⟨Int.le_trans (by decide) this.1, this.2.1, this.2.2.1, this.2.2.2⟩
    · rw [if_pos rfl]
      have := hlv_inv (over d o k) 64 (-6867989431740006400) 0 (by decide) (by rw [two64]; decide) lo hz
      exact ⟨this.1, this.2.1, Int.le_trans this.2.2.1 (by decide), this.2.2.2⟩
  refine ⟨(findP d o k).1, he, el, ?_, key.1, ?_, key.2.2.2.1, ?_⟩
  · rw [eh, key.2.1]
  · rw [← key.2.1]; exact key.2.2.1
  · rw [← key.2.1]; exact key.2.2.2.2
/-- The next eigenvalue's is no less. -/
theorem find_next {d o : List Nat} {k P Q : Int} (hP : -6867989431740006400 ≤ P) (hP2 : P + 1 ≤ 6867989431740006400) (hQ : -6867989431740006400 ≤ Q) (hQ2 : Q + 1 ≤ 6867989431740006400) (h1 : over d o k P = false) (h2 : over d o (k + 1) (Q + 1) = true) : P ≤ Q := by
  rcases (by omega : Q < P ∨ P ≤ Q) with h | h
  · have h3 : over d o k (Q + 1) = true := by unfold over at *; have := of_decide_eq_true h2; exact decide_eq_true (by omega)
    have := over_mono (by omega) (by omega : Q + 1 ≤ P) (by omega) h3
    rw [h1] at this; cases this
  · exact h
/-- What is found is counted. -/
theorem found {d o : List Nat} {p : Int} (hr : rightB d o = true) (h1 : -6867989431740006400 ≤ p) (h2 : p ≤ 6867989431740006400) : wrongE d o (atW p) = 0 ∧ exactN d o (atW p) = St.cnt (val (atW p)) (d.map val) (o.map val) := by
  have e := (atW_r h1 h2).1
  have hw : wrongE d o (atW p) = 0 := by unfold wrongE; rw [if_pos hr, if_neg (by omega), if_neg (by omega)]
  exact ⟨hw, if_pos hw⟩
end Go.Proofs.YtfjiojdnbdfenaaDoor


/- girderkit.Pick. -/
namespace Go.Proofs.YtfjiojdnbdfenaaDoor
open Go Go.RowKit Nv GFl
set_option maxRecDepth 100000
set_option linter.unusedSimpArgs false

theorem pick_e (x n : Int) (h1 : 1 ≤ n) (h2 : n ≤ 100) : ∃ K : Int, 0 ≤ K ∧ K < n ∧ ∀ W : World, Calls Tryd.prog 30 #[.int .i64 x, .int .i64 n] W fun e w' => e = .returned (.int .i64 K) ∧ W = w' := by
  have k1 : decide (n < 1) = false := decide_eq_false (by omega)
  have k2 : n ≠ 0 := by omega
  have m1 := Int.tmod_lt_of_pos x (show (0 : Int) < n by omega)
  have m2 : -n < x.tmod n := by
    have := Int.lt_tmod_of_pos x (show (0 : Int) < n by omega)
    omega
  have e1 : IntKind.i64.wrap (x.tmod n) = x.tmod n := by rw [IntKind.wrap_i64]; omega
  obtain ⟨m, hm⟩ : ∃ m, x.tmod n = m := ⟨_, rfl⟩
  rw [hm] at e1 m1 m2
  by_cases hn : m < 0
  · have k3 : decide (m < 0) = true := decide_eq_true hn
    refine ⟨m + n, by omega, by omega, fun W => ?_⟩
    go_enter Tryd.func30, Tryd.ntmps30
    go_wp2
    go_ret
    exact ⟨ret_int (by omega), rfl⟩
  · have k3 : decide (m < 0) = false := decide_eq_false hn
    refine ⟨m, by omega, by omega, fun W => ?_⟩
    go_enter Tryd.func30, Tryd.ntmps30
    go_wp2
    go_ret
    exact ⟨ret_int (by omega), rfl⟩
end Go.Proofs.YtfjiojdnbdfenaaDoor


/- girderlaw17.SturmBetween. -/
namespace Go.Proofs.YtfjiojdnbdfenaaDoor
open Go Go.RowKit Nv GFl
set_option maxRecDepth 100000
set_option linter.unusedSimpArgs false

/-- A world with the chain laid out. -/
structure CB (W w : World) (u v : Value) : Prop where
  b : Below W.heap.size W w
  r : w.heap[W.heap.size]? = some (.cells #[u, v] 24 (0, 0))
theorem CB.start (W : World) (u v : Value) : CB W (W.alloc (.cells #[u, v] 24)) u v := ⟨bl_alloc (Below.refl _ _) _, kb_new (Below.refl _ _)⟩
theorem CB.then {W w w' : World} {u v : Value} (h : CB W w u v) (hb : Below w.heap.size w w') : CB W w' u v := ⟨bl_then h.b hb, kb_keep hb h.r⟩
theorem CB.drewN {W w : World} {u v : Value} (h : CB W w u v) (n : Nat) : CB W (w.drewN n) u v := ⟨bl_drewN h.b n, h.r⟩
theorem CB.drew {W w : World} {u v : Value} (h : CB W w u v) : CB W w.drew u v := ⟨bl_drew h.b, h.r⟩
theorem ge_of {P Q : Int} (hP : -6867989431740006400 ≤ P) (hP2 : P ≤ 6867989431740006400) (hQ : -6867989431740006400 ≤ Q) (hQ2 : Q ≤ 6867989431740006400) (h : P ≤ Q) : (FloatKind.f64.format.order (atW Q) (atW P) == some .gt || FloatKind.f64.format.order (atW Q) (atW P) == some .eq) = true := by
  rw [t_ge (atW_r hQ hQ2).2.1 (atW_r hP hP2).2.1, (atW_p hP hP2).1, (atW_p hQ hQ2).1, (atW_p hP hP2).2.1, (atW_p hQ hQ2).2.1]
  simp [h]
/-- What the law asks, laid out: K the number, P the place, a and b the counts. -/
structure BF (A B : Option Addr) (cA cB : Nat) (d o : List Nat) (W : World) (K P a b : Int) : Prop where
  f : ∀ w, Below W.heap.size W w → Calls Tryd.prog 31 #[.agg #[.slice A d.length cA, .slice B o.length cB], .int .i64 K] w fun e w' => e = .returned (.tuple #[.float .f64 (atW P), .float .f64 (atW (P + 1)), .int .i64 0]) ∧ Below w.heap.size w w'
  e1 : ∀ w, Below W.heap.size W w → Calls Tryd.prog 15 #[.agg #[.slice A d.length cA, .slice B o.length cB], .float .f64 (atW P)] w fun e w' => e = .returned (.tuple #[.int .i64 a, .int .i64 0]) ∧ Below w.heap.size w w'
  e2 : ∀ w, Below W.heap.size W w → Calls Tryd.prog 15 #[.agg #[.slice A d.length cA, .slice B o.length cB], .float .f64 (atW (P + 1))] w fun e w' => e = .returned (.tuple #[.int .i64 b, .int .i64 0]) ∧ Below w.heap.size w w'
  p1 : ∀ w, Calls Tryd.prog 32 #[.float .f64 (atW P)] w fun e w' => e = .returned (.tuple #[.int .i64 P, .bool true]) ∧ w' = w
  p2 : ∀ w, Calls Tryd.prog 32 #[.float .f64 (atW (P + 1))] w fun e w' => e = .returned (.tuple #[.int .i64 (P + 1), .bool true]) ∧ w' = w
  ak : a ≤ K
  kb : K < b
  h1 : -6867989431740006400 ≤ P
  h2 : P + 1 ≤ 6867989431740006400
set_option maxHeartbeats 1000000 in
theorem bf_of {W : World} (A B : Option Addr) (cA cB : Nat) (d o : List Nat) (hA : d.length ≤ cA) (hB : o.length ≤ cB) (hd : Fl W A d) (ho : Fl W B o) (wd : ∀ x ∈ d, W64 x) (wo : ∀ x ∈ o, W64 x) (hT : Tab W) (hr : rightB d o = true) (K : Int) (h0 : 0 ≤ K) (h1 : K < d.length) :
    ∃ P a b, BF A B cA cB d o W K P a b ∧ over d o K P = false := by
  obtain ⟨P, g1, g2, g3, g4, g5, g6, g7⟩ := find_good hr h0 h1
  obtain ⟨u1, u2⟩ := found (d := d) (o := o) (p := P) hr g4 (by omega)
  obtain ⟨v1, v2⟩ := found (d := d) (o := o) (p := P + 1) hr (by omega) g5
  have q1 := atW_p (p := P) g4 (by omega)
  have q2 := atW_p (p := P + 1) (by omega) g5
  refine ⟨P, exactN d o (atW P), exactN d o (atW (P + 1)), ⟨fun w h => ?_, fun w h => ?_, fun w h => ?_, fun w => ?_, fun w => ?_, ?_, ?_, g4, g5⟩, g6⟩
  · have := find_c A B cA cB d o K w (hd.below h) (ho.below h) hA hB wd wo (hT.below h)
    rw [g1, g2, g3] at this
    exact this
  · have := exact_c A B cA cB d o (atW P) w (hd.below h) (ho.below h) hA hB wd wo (atW_r g4 (by omega)).2.1 (hT.below h)
    rw [u1] at this
    exact this
  · have := exact_c A B cA cB d o (atW (P + 1)) w (hd.below h) (ho.below h) hA hB wd wo (atW_r (by omega) g5).2.1 (hT.below h)
    rw [v1] at this
    exact this
  · have := place_c (atW P) (atW_r g4 (by omega)).2.1 w
    rw [q1.2.2, q1.2.1] at this
    exact this
  · have := place_c (atW (P + 1)) (atW_r (by omega) g5).2.1 w
    rw [q2.2.2, q2.2.1] at this
    exact this
  · rw [u2]; exact Int.not_lt.1 (of_decide_eq_false g6)
  · rw [v2]; exact of_decide_eq_true g7
set_option maxHeartbeats 4000000 in
theorem sturmBetween_no {W : World} (A B : Option Addr) (cA cB : Nat) (d o : List Nat) (k : Int) (hd : Fl W A d) (ho : Fl W B o) (wd : ∀ x ∈ d, W64 x) (wo : ∀ x ∈ o, W64 x) (hT : Tab W) (h : d.length = 0 ∨ 8 < d.length ∨ rightB d o = false) :
    Calls Tryd.prog 9 #[.agg #[.slice A d.length cA, .slice B o.length cB], .int .i64 k] W fun e w' => e = .returned (.bool true) ∧ Below W.heap.size W w' := by
  have aw : ∀ w, Below W.heap.size W w → Calls Tryd.prog 11 #[] w fun e w' => e = .returned (.bool true) ∧ Below w.heap.size w w' := fun w h => awake_c w (hT.below h)
  have rc : ∀ w, Below W.heap.size W w → Calls Tryd.prog 13 #[.agg #[.slice A d.length cA, .slice B o.length cB]] w fun e w' => e = .returned (.bool (rightB d o)) ∧ Below w.heap.size w w' := fun w h => right_c A B cA cB d o w (hd.below h) (ho.below h) wd wo
  have C0 := Lib.hid (CB.start W (.slice A d.length cA) (.slice B o.length cB))
  have AW := Lib.hid aw
  have RC := Lib.hid rc
  have H := Lib.hid h
  obtain ⟨r, hr⟩ : ∃ r, rightB d o = r := ⟨_, rfl⟩
  rw [hr] at RC H
  clear h hd ho wd wo hT aw rc hr
  by_cases k0 : d.length = 0
  · have k1 : ((d.length : Int) == 0) = true := by simpa using k0
    clear k0
    go_enter Tryd.func9, Tryd.ntmps9
    go_wp2_with (first
      | (go_at_call 11; (with_reducible refine (AW.out _ C0.out.b).mono ?_); rintro e w1 ⟨rfl, hb⟩; have c := CB.then C0.out hb; have cc0 := kb_cell c.r (i := 0) rfl; have cc1 := kb_cell c.r (i := 1) rfl; have C0 := Lib.hid c; clear c hb))
    go_ret
    exact ⟨rfl, by first | exact C0.out.b | exact bl_drewN C0.out.b _⟩
  · have k1 : ((d.length : Int) == 0) = false := by simpa using k0
    by_cases h8 : 8 < d.length
    · have k2 : decide (8 < (d.length : Int)) = true := decide_eq_true (by omega)
      clear k0 h8
      go_enter Tryd.func9, Tryd.ntmps9
      go_wp2_with (first
        | (go_at_call 11; (with_reducible refine (AW.out _ C0.out.b).mono ?_); rintro e w1 ⟨rfl, hb⟩; have c := CB.then C0.out hb; have cc0 := kb_cell c.r (i := 0) rfl; have cc1 := kb_cell c.r (i := 1) rfl; have C0 := Lib.hid c; clear c hb))
      go_ret
      exact ⟨rfl, by first | exact C0.out.b | exact bl_drewN C0.out.b _⟩
    · have k2 : decide (8 < (d.length : Int)) = false := decide_eq_false (by omega)
      have k3 : r = false := by rcases H.out with h | h | h; exact absurd h k0; exact absurd h h8; exact h
      subst k3
      clear k0 h8
      go_enter Tryd.func9, Tryd.ntmps9
      go_wp2_with (first
        | (go_at_call 11; (with_reducible refine (AW.out _ C0.out.b).mono ?_); rintro e w1 ⟨rfl, hb⟩; have c := CB.then C0.out hb; have cc0 := kb_cell c.r (i := 0) rfl; have cc1 := kb_cell c.r (i := 1) rfl; have C0 := Lib.hid c; clear c hb)
        | (go_at_call 13; (with_reducible refine (RC.out _ C0.out.b).mono ?_); rintro e w2 ⟨rfl, hb⟩; have c := CB.then C0.out hb; have cc0 := kb_cell c.r (i := 0) rfl; have cc1 := kb_cell c.r (i := 1) rfl; have C0 := Lib.hid c; clear c hb))
      go_ret
      exact ⟨rfl, by first | exact C0.out.b | exact bl_drewN C0.out.b _⟩
set_option maxHeartbeats 8000000 in
theorem sturmBetween_yes {W : World} (A B : Option Addr) (cA cB : Nat) (d o : List Nat) (k : Int) (hA : d.length ≤ cA) (hB : o.length ≤ cB) (hd : Fl W A d) (ho : Fl W B o) (wd : ∀ x ∈ d, W64 x) (wo : ∀ x ∈ o, W64 x) (hT : Tab W) (h0 : d.length ≠ 0) (h8 : d.length ≤ 8) (hr : rightB d o = true) :
    Calls Tryd.prog 9 #[.agg #[.slice A d.length cA, .slice B o.length cB], .int .i64 k] W fun e w' => e = .returned (.bool true) ∧ Below W.heap.size W w' := by
  have aw : ∀ w, Below W.heap.size W w → Calls Tryd.prog 11 #[] w fun e w' => e = .returned (.bool true) ∧ Below w.heap.size w w' := fun w h => awake_c w (hT.below h)
  have rc : ∀ w, Below W.heap.size W w → Calls Tryd.prog 13 #[.agg #[.slice A d.length cA, .slice B o.length cB]] w fun e w' => e = .returned (.bool (rightB d o)) ∧ Below w.heap.size w w' := fun w h => right_c A B cA cB d o w (hd.below h) (ho.below h) wd wo
  have C0 := Lib.hid (CB.start W (.slice A d.length cA) (.slice B o.length cB))
  obtain ⟨K, hK0, hK1, pk⟩ := pick_e k d.length (by omega) (by omega)
  obtain ⟨P, a, b, F, hov⟩ := bf_of A B cA cB d o hA hB hd ho wd wo hT hr K hK0 hK1
  have fn : ∃ (x y : Nat) (E : Int), (∀ w, Below W.heap.size W w → Calls Tryd.prog 31 #[.agg #[.slice A d.length cA, .slice B o.length cB], .int .i64 (K + 1)] w fun e w' => e = .returned (.tuple #[.float .f64 x, .float .f64 y, .int .i64 E]) ∧ Below w.heap.size w w') ∧
      ((K + 1 == (d.length : Int)) = true ∧ E = 270 ∧ x = 0 ∨ (K + 1 == (d.length : Int)) = false ∧ E = 0 ∧ (FloatKind.f64.format.order x (atW P) == some .gt || FloatKind.f64.format.order x (atW P) == some .eq) = true) := by
    by_cases hl : K + 1 = (d.length : Int)
    · have he : findE d o (K + 1) = 270 := by unfold findE; rw [if_pos hr, if_neg (by omega), if_pos (by omega)]
      have hx : findL d o (K + 1) = 0 := if_neg (by rw [he]; decide)
      refine ⟨findL d o (K + 1), findH d o (K + 1), findE d o (K + 1), fun w h => find_c A B cA cB d o (K + 1) w (hd.below h) (ho.below h) hA hB wd wo (hT.below h), Or.inl ⟨by simpa using hl, he, hx⟩⟩
    · obtain ⟨Q, a', b', F', hov'⟩ := bf_of A B cA cB d o hA hB hd ho wd wo hT hr (K + 1) (by omega) (by omega)
      obtain ⟨Q', g1, g2, g3, g4, g5, g6, g7⟩ := find_good hr (show 0 ≤ K + 1 by omega) (show K + 1 < d.length by omega)
      refine ⟨findL d o (K + 1), findH d o (K + 1), findE d o (K + 1), fun w h => find_c A B cA cB d o (K + 1) w (hd.below h) (ho.below h) hA hB wd wo (hT.below h), Or.inr ⟨by simpa using hl, g1, ?_⟩⟩
      rw [g2]
      exact ge_of F.h1 (by have := F.h2; omega) g4 (by omega) (find_next F.h1 F.h2 g4 g5 hov g7)
  obtain ⟨x, y, E, nx, hE⟩ := fn
  have k1 : ((d.length : Int) == 0) = false := by simpa using h0
  have k2 : decide (8 < (d.length : Int)) = false := decide_eq_false (by omega)
  have k3 : decide (K < a) = false := decide_eq_false (by have := F.ak; omega)
  have k4 : decide (b ≤ K) = false := decide_eq_false (by have := F.kb; omega)
  have ep : wrap64 (P + 1) = P + 1 := by have h1 := F.h1; have h2 := F.h2; unfold wrap64; omega
  have ek : wrap64 (K + 1) = K + 1 := by unfold wrap64; omega
  rw [hr] at rc
  have AW := Lib.hid aw
  have RC := Lib.hid rc
  have PK := Lib.hid pk
  have FF := Lib.hid F.f
  have E1 := Lib.hid F.e1
  have E2 := Lib.hid F.e2
  have P1 := Lib.hid F.p1
  have P2 := Lib.hid F.p2
  have NX := Lib.hid nx
  clear nx F pk rc aw hov h0 h8 hr hd ho hA hB wd wo hT hK0 hK1
  have z0 : (FloatKind.f64.format.order 0 0 == some .eq) = true := by decide
  rcases hE with ⟨t1, rfl, rfl⟩ | ⟨t1, rfl, t2⟩
  all_goals
    go_enter Tryd.func9, Tryd.ntmps9
    go_wp2_with (first
      | (go_at_call 11; (with_reducible refine (AW.out _ C0.out.b).mono ?_); rintro e w1 ⟨rfl, hb⟩; have c := CB.then C0.out hb; have cc0 := kb_cell c.r (i := 0) rfl; have cc1 := kb_cell c.r (i := 1) rfl; have C0 := Lib.hid c; clear c hb)
      | (go_at_call 13; (with_reducible refine (RC.out _ C0.out.b).mono ?_); rintro e w2 ⟨rfl, hb⟩; have c := CB.then C0.out hb; have cc0 := kb_cell c.r (i := 0) rfl; have cc1 := kb_cell c.r (i := 1) rfl; have C0 := Lib.hid c; clear c hb)
      | (go_at_call 30; (with_reducible refine (PK.out _).mono ?_); rintro e w' ⟨rfl, hw⟩; obtain rfl := hw.symm; clear hw)
      | (go_at_call 31; (with_reducible refine (FF.out _ C0.out.b).mono ?_); rintro e w3 ⟨rfl, hb⟩; have c := CB.then C0.out hb; have cc0 := kb_cell c.r (i := 0) rfl; have cc1 := kb_cell c.r (i := 1) rfl; have C0 := Lib.hid c; clear c hb)
      | (go_at_call 31; (with_reducible refine (NX.out _ C0.out.b).mono ?_); rintro e w3 ⟨rfl, hb⟩; have c := CB.then C0.out hb; have cc0 := kb_cell c.r (i := 0) rfl; have cc1 := kb_cell c.r (i := 1) rfl; have C0 := Lib.hid c; clear c hb)
      | (go_at_call 15; (with_reducible refine (E1.out _ C0.out.b).mono ?_); rintro e w3 ⟨rfl, hb⟩; have c := CB.then C0.out hb; have cc0 := kb_cell c.r (i := 0) rfl; have cc1 := kb_cell c.r (i := 1) rfl; have C0 := Lib.hid c; clear c hb)
      | (go_at_call 15; (with_reducible refine (E2.out _ C0.out.b).mono ?_); rintro e w3 ⟨rfl, hb⟩; have c := CB.then C0.out hb; have cc0 := kb_cell c.r (i := 0) rfl; have cc1 := kb_cell c.r (i := 1) rfl; have C0 := Lib.hid c; clear c hb)
      | (go_at_call 32; (with_reducible refine (P1.out _).mono ?_); rintro e w' ⟨rfl, hw⟩; obtain rfl := hw.symm; clear hw)
      | (go_at_call 32; (with_reducible refine (P2.out _).mono ?_); rintro e w' ⟨rfl, hw⟩; obtain rfl := hw.symm; clear hw))
    go_ret
    exact ⟨rfl, by first | exact C0.out.b | exact bl_drewN C0.out.b _⟩
theorem sturmBetween_c {W : World} (A B : Option Addr) (cA cB : Nat) (d o : List Nat) (k : Int) (hA : d.length ≤ cA) (hB : o.length ≤ cB) (hd : Fl W A d) (ho : Fl W B o) (wd : ∀ x ∈ d, W64 x) (wo : ∀ x ∈ o, W64 x) (_ : -9223372036854775808 ≤ k) (_ : k ≤ 9223372036854775807) (hT : Tab W) :
    Calls Tryd.prog 9 #[.agg #[.slice A d.length cA, .slice B o.length cB], .int .i64 k] W fun e w' => e = .returned (.bool true) ∧ Below W.heap.size W w' := by
  by_cases h : d.length = 0 ∨ 8 < d.length ∨ rightB d o = false
  · exact sturmBetween_no A B cA cB d o k hd ho wd wo hT h
  · refine sturmBetween_yes A B cA cB d o k hA hB hd ho wd wo hT (fun h0 => h (Or.inl h0)) ?_ ?_
    · rcases Nat.lt_or_ge 8 d.length with h8 | h8
      · exact absurd (Or.inr (Or.inl h8)) h
      · exact h8
    · cases hr : rightB d o
      · exact absurd (Or.inr (Or.inr hr)) h
      · rfl
end Go.Proofs.YtfjiojdnbdfenaaDoor


/- What Least answers of a chord (plain). -/
namespace Go.Proofs.YtfjiojdnbdfenaaDoor
open Go Nv GFl Ieee
set_option maxRecDepth 100000

theorem zeroW : W64 0 := w_const (by decide)
theorem val0 : val 0 = 0 := by decide
/-- A good chord: counted at 0. -/
theorem ch_right {p l : List Nat} {s : Nat} (h : Gd p l s) : rightB (chD p l s) (chO p l s) = true ∧ wrongE (chD p l s) (chO p l s) 0 = 0 ∧ exactN (chD p l s) (chO p l s) 0 = St.cnt 0 ((chD p l s).map val) ((chO p l s).map val) := by
  obtain ⟨h1, h2, h3, h4⟩ := ch_cf h
  have hn := h.n
  have hr : rightB (chD p l s) (chO p l s) = true := by
    unfold rightB okF
    simp only [Bool.and_eq_true, decide_eq_true_eq, List.all_eq_true]
    exact ⟨⟨by omega, by omega, by omega⟩, fun x hx => (h1 x hx).r, fun x hx => (h2 x hx).r⟩
  have hw : wrongE (chD p l s) (chO p l s) 0 = 0 := by
    unfold wrongE
    rw [if_pos hr, if_neg (by decide), if_neg (by decide)]
  refine ⟨hr, hw, ?_⟩
  unfold exactN
  rw [if_pos hw, val0]
theorem gv_n {p l : List Nat} {s : Nat} (h : Gd p l s) : (gvB p l s = false → exactN (chD p l s) (chO p l s) 0 = 0) ∧ (gvB p l s = true → 0 < exactN (chD p l s) (chO p l s) 0) := by
  rw [(ch_right h).2.2]
  have := (St.cnt_range 0 ((chD p l s).map val) ((chO p l s).map val)).1
  unfold gvB
  exact ⟨fun h => by have := of_decide_eq_false h; omega, fun h => of_decide_eq_true h⟩
theorem ps0 : Ps 0 := ⟨zeroW, by decide, by decide⟩
theorem ps_r2 {s : Nat} (h : Ps s) : 0 ≤ plc s ∧ plc s ≤ 4877398396442247168 := by have := h.hi; rw [h.pos]; omega
/-- Least's answer. -/
theorem least_good {p l : List Nat} {s : Nat} (h : Gd p l s) (hg : gvB p l s = true) : ∃ P : Int, leastE p l s = 0 ∧ leastL p l s = atW P ∧ leastH p l s = atW (P + 1) ∧ 0 ≤ P ∧ P + 1 ≤ plc s ∧ gvB p l (atW P) = false ∧ gvB p l (atW (P + 1)) = true := by
  have he : leastE p l s = 0 := by unfold leastE; rw [if_pos (gd_mk h), if_pos hg]
  have hr := ps_r2 h.s
  have h0 : rg s ≠ 0 := fun h0 => by rw [gv_zero h h0] at hg; cases hg
  have hn : neg s = false := by
    have := h.s.pos
    rw [plc_eq] at this
    cases hn : neg s
    · rfl
    · rw [hn] at this; simp only [if_true] at this; omega
  have es : atW (plc s) = s := by
    unfold atW
    rw [plc_eq, hn]
    have e : decide ((if false = true then -(rg s : Int) else (rg s : Int)) < 0) = false := by simp
    rw [e]
    have e2 : (if false = true then -(rg s : Int) else (rg s : Int)).natAbs = rg s := by simp
    rw [e2, ← hn]
    exact (w64_wd h.s.w).symm
  have lo : gvB p l (atW 0) = false := gv_zero (h.push (by rw [show atW 0 = 0 by decide]; exact ps0)) (by decide)
  have hi : gvB p l (atW (plc s)) = true := by rw [es]; exact hg
  have hpos : 0 < plc s := by rw [h.s.pos]; omega
  have key := hlv_inv (fun q => gvB p l (atW q)) 64 0 (plc s) hpos (by rw [two64]; omega) lo hi
  have el : leastL p l s = atW (leastP p l s).1 := if_pos he
  have eh : leastH p l s = atW (leastP p l s).2 := if_pos he
  have key : 0 ≤ (leastP p l s).1 ∧ (leastP p l s).2 = (leastP p l s).1 + 1 ∧ (leastP p l s).2 ≤ plc s ∧ gvB p l (atW (leastP p l s).1) = false ∧ gvB p l (atW (leastP p l s).2) = true := key
  refine ⟨(leastP p l s).1, he, el, ?_, key.1, ?_, key.2.2.2.1, ?_⟩
  · rw [eh, key.2.1]
  · rw [← key.2.1]; exact key.2.2.1
  · rw [← key.2.1]; exact key.2.2.2.2
/-- The sign of a difference. -/
theorem dif_neg {x y : Nat} (hx : W64 x) (hy : W64 y) (fx : rg x < 9218868437227405312) (fy : rg y < 9218868437227405312) : decide (val (fsub x y) < 0) = decide (plc x < plc y) := by
  obtain ⟨r, hr, e⟩ := sub64 hx hy fx fy
  have lt : val x < val y ↔ plc x < plc y := sv_lt_iff
  rw [fsub_of e, val_wd (by have := Nat.min_le_right r 9218868437227405312; omega)]
  have pos : val x - val y ≠ 0 → 0 < mg B52 (min r 9218868437227405312) := fun h => by
    have : r ≠ 0 := fun h0 => by
      subst h0
      have := hr.up
      rw [mg_zero _ B52_pos, mg_small (by decide)] at this
      omega
    exact Nat.lt_of_lt_of_le (by omega) (le_mg B52 _ B52_pos)
  rw [Bool.eq_iff_iff, decide_eq_true_eq, decide_eq_true_eq, ← lt]
  by_cases h0 : val x - val y = 0
  · have hr' : IsRn B52 (val x - val y).natAbs 1 r := hr
    rw [h0] at hr'
    have h1 : ¬ val x < val y := by omega
    have r0 : r = 0 := hr'.unique B52_pos (by decide) (IsRn.zero B52_pos (by decide))
    rw [r0, Nat.zero_min, mg_zero _ B52_pos]
    constructor
    · intro h2; split at h2 <;> simp at h2
    · intro h2; exact absurd h2 h1
  · have hm := pos h0
    generalize mg B52 (min r 9218868437227405312) = m at *
    rw [if_neg h0]
    by_cases h1 : val x - val y < 0
    · rw [decide_eq_true h1]; simp only [if_true]; omega
    · rw [decide_eq_false h1]; simp only [Bool.false_eq_true, if_false]; omega
/-- One prop. -/
theorem one_prop {p l : List Nat} {s : Nat} (h : Gd p l s) (h1 : p.length = 1) : ∃ (i0 : 0 < p.length) (j0 : 0 < l.length) (j1 : 1 < l.length), double.div s l[0] = some (fdiv s l[0]) ∧ double.div s l[1] = some (fdiv s l[1]) ∧ double.add (fdiv s l[0]) (fdiv s l[1]) = some (fadd (fdiv s l[0]) (fdiv s l[1])) ∧
    (exactN (chD p l s) (chO p l s) 0 == 1) = (double.order p[0] (fadd (fdiv s l[0]) (fdiv s l[1])) == some .lt) := by
  have hn := h.n
  refine ⟨by omega, by omega, by omega, ?_⟩
  have j0 : 0 < l.length := by omega
  have j1 : 1 < l.length := by omega
  have i0 : 0 < p.length := by omega
  obtain ⟨x1, x2, x3, _⟩ := quo_ok h.s (h.l _ (List.getElem_mem j0))
  obtain ⟨y1, y2, y3, _⟩ := quo_ok h.s (h.l _ (List.getElem_mem j1))
  obtain ⟨z1, z2, z3⟩ := add_ok x2 y2 x3 y3
  obtain ⟨t1, t2, t3⟩ := dif_ok (h.p _ (List.getElem_mem i0)) z2 z3
  have hp := h.p _ (List.getElem_mem i0)
  refine ⟨x1, y1, z1, ?_⟩
  have eD : chD p l s = [fsub p[0] (fadd (fdiv s l[0]) (fdiv s l[1]))] := by
    unfold chD chDk
    rw [if_pos (gd_mk h), h1]
    simp only [List.range_one, List.map_cons, List.map_nil, List.getD_eq_getElem?_getD, List.getElem?_eq_getElem i0, List.getElem?_eq_getElem j0, List.getElem?_eq_getElem (show 0 + 1 < l.length from j1), Option.getD_some]
  have eO : chO p l s = [] := by
    unfold chO chOk
    rw [if_pos (gd_mk h), h1]; rfl
  have fz : rg (fadd (fdiv s l[0]) (fdiv s l[1])) < 9218868437227405312 := Nat.lt_of_le_of_lt z3 (by decide)
  have fp : rg p[0] < 9218868437227405312 := by have := hp.hi; omega
  rw [(ch_right h).2.2, eD, eO, o_lt hp.w z2.w, z2.isn, show isn p[0] = false by rw [isn_eq]; simp; omega, ← dif_neg hp.w z2.w fp fz]
  have e := St.cnt_zeros 0 [val (fsub p[0] (fadd (fdiv s l[0]) (fdiv s l[1])))] [] (fun y hy => by cases hy)
  show (St.cnt 0 [val (fsub p[0] (fadd (fdiv s l[0]) (fdiv s l[1])))] [] == 1) = _
  rw [e]
  generalize val (fsub p[0] (fadd (fdiv s l[0]) (fdiv s l[1]))) = v
  by_cases hv : v < 0 <;> simp [hv]
end Go.Proofs.YtfjiojdnbdfenaaDoor


/- girderlaw17.SturmGives. -/
namespace Go.Proofs.YtfjiojdnbdfenaaDoor
open Go Go.RowKit Nv GFl Ieee
set_option maxRecDepth 100000
set_option linter.unusedSimpArgs false

/-- A chain that was told, laid out in a block. -/
structure GS (w : World) (D O : List Nat) (AD AO : Option Addr) (nD nO : Nat) (b : Nat) : Prop where
  d : Fl w AD D
  o : Fl w AO O
  hd : D.length ≤ nD
  ho : O.length ≤ nO
  k : w.heap[b]? = some (.cells #[.slice AD D.length nD, .slice AO O.length nO] 24 (0, 0))
theorem GS.then {w w' : World} {D O : List Nat} {AD AO : Option Addr} {nD nO b : Nat} (h : GS w D O AD AO nD nO b) (hb : Below w.heap.size w w') : GS w' D O AD AO nD nO b := ⟨h.d.below hb, h.o.below hb, h.hd, h.ho, kb_keep hb h.k⟩
theorem GS.mk_ {w : World} {D O : List Nat} {AD AO : Option Addr} {nD nO : Nat} (fD : Fl w AD D) (fO : Fl w AO O) (hD : D.length ≤ nD) (hO : O.length ≤ nO) : GS (w.alloc (.cells #[.slice AD D.length nD, .slice AO O.length nO] 24)) D O AD AO nD nO w.heap.size :=
  ⟨fD.below ((Below.refl _ _).alloc (Nat.le_refl _) _), fO.below ((Below.refl _ _).alloc (Nat.le_refl _) _), hD, hO, kb_new (Below.refl _ _)⟩
theorem GS.exact {w : World} {p l : List Nat} {s : Nat} {AD AO : Option Addr} {nD nO b : Nat} (h : GS w (chD p l s) (chO p l s) AD AO nD nO b) (g : Gd p l s) (hT : Tab w) :
    Calls Tryd.prog 15 #[.agg #[.slice AD (chD p l s).length nD, .slice AO (chO p l s).length nO], .float .f64 0] w fun e w' => e = .returned (.tuple #[.int .i64 (exactN (chD p l s) (chO p l s) 0), .int .i64 0]) ∧ Below w.heap.size w w' := by
  obtain ⟨h1, h2, _, _⟩ := ch_cf g
  have := exact_c AD AO nD nO (chD p l s) (chO p l s) 0 w h.d h.o h.hd h.ho (fun x hx => (h1 x hx).w) (fun x hx => (h2 x hx).w) zeroW hT
  rw [(ch_right g).2.1] at this
  exact this
theorem GS.right {w : World} {p l : List Nat} {s : Nat} {AD AO : Option Addr} {nD nO b : Nat} (h : GS w (chD p l s) (chO p l s) AD AO nD nO b) (g : Gd p l s) :
    Calls Tryd.prog 13 #[.agg #[.slice AD (chD p l s).length nD, .slice AO (chO p l s).length nO]] w fun e w' => e = .returned (.bool true) ∧ Below w.heap.size w w' := by
  obtain ⟨h1, h2, _, _⟩ := ch_cf g
  have := right_c AD AO nD nO (chD p l s) (chO p l s) w h.d h.o (fun x hx => (h1 x hx).w) (fun x hx => (h2 x hx).w)
  rw [(ch_right g).1] at this
  exact this
set_option maxHeartbeats 8000000 in
theorem sturmGives_no {W : World} (A B : Option Addr) (cA cB : Nat) (p l : List Nat) (s : Nat) (hp : Fl W A p) (hl : Fl W B l) (wp : ∀ x ∈ p, W64 x) (wl : ∀ x ∈ l, W64 x) (hs : W64 s) (hT : Tab W) (h : 8 < p.length ∨ p.length ≤ 8 ∧ chordE p l s ≠ 0) :
    Calls Tryd.prog 10 #[.slice A p.length cA, .slice B l.length cB, .float .f64 s] W fun e w' => e = .returned (.bool true) ∧ Below W.heap.size W w' := by
  have aw : ∀ w, Below W.heap.size W w → Calls Tryd.prog 11 #[] w fun e w' => e = .returned (.bool true) ∧ Below w.heap.size w w' := fun w h => awake_c w (hT.below h)
  have B0 := Lib.hid (Below.refl W.heap.size W)
  have AW := Lib.hid aw
  rcases h with h8 | ⟨h8, he⟩
  · have k1 : decide (8 < (p.length : Int)) = true := decide_eq_true (by omega)
    clear hp hl wp wl hs hT aw h8
    go_enter Tryd.func10, Tryd.ntmps10
    go_wp2_with (first
      | (go_at_call 11; (with_reducible refine (AW.out _ B0.out).mono ?_); rintro e w1 ⟨rfl, hb⟩; have B0 := Lib.hid (bl_then B0.out hb); clear hb))
    go_ret
    exact ⟨rfl, B0.out⟩
  · have k1 : decide (8 < (p.length : Int)) = false := decide_eq_false (by omega)
    have cc : ∀ w, Below W.heap.size W w → Calls Tryd.prog 21 #[.slice A p.length cA, .slice B l.length cB, .float .f64 s] w (fun e w' => (∃ AD nD AO nO, e = .returned (.tuple #[.agg #[.slice AD 0 nD, .slice AO 0 nO], .int .i64 (chordE p l s)])) ∧ Below w.heap.size w w') := fun w h => by
      refine (chord_c A B cA cB p l s w (hp.below h) (hl.below h) wp wl hs).mono ?_
      rintro e w' ⟨vD, vO, rfl, hD, hO, hb⟩
      have e1 : chD p l s = [] := if_neg he
      have e2 : chO p l s = [] := if_neg he
      rw [e1] at hD
      rw [e2] at hO
      obtain ⟨AD, nD, rfl, _, _⟩ := ow_sl hD
      obtain ⟨AO, nO, rfl, _, _⟩ := ow_sl hO
      exact ⟨⟨AD, nD, AO, nO, rfl⟩, hb⟩
    have lc : ∀ w, Below W.heap.size W w → Calls Tryd.prog 26 #[.slice A p.length cA, .slice B l.length cB, .float .f64 s] w (fun e w' => e = .returned (.tuple #[.float .f64 0, .float .f64 0, .int .i64 (chordE p l s)]) ∧ Below w.heap.size w w') := fun w h => by
      have := least_c A B cA cB p l s w (hp.below h) (hl.below h) wp wl hs (hT.below h)
      have el : leastE p l s = chordE p l s := if_neg he
      unfold leastL leastH at this
      rw [el, if_neg he, if_neg he] at this
      exact this
    have CC := Lib.hid cc
    have LC := Lib.hid lc
    have k2 : (chordE p l s != 0) = true := by simpa using he
    have z0 : (FloatKind.f64.format.order 0 0 == some .eq) = true := by decide
    obtain ⟨E, hE⟩ : ∃ E, chordE p l s = E := ⟨_, rfl⟩
    rw [hE] at CC LC k2
    clear hp hl wp wl hs hT aw h8 he cc lc hE
    go_enter Tryd.func10, Tryd.ntmps10
    go_wp2_with (first
      | (go_at_call 11; (with_reducible refine (AW.out _ B0.out).mono ?_); rintro e w1 ⟨rfl, hb⟩; have B0 := Lib.hid (bl_then B0.out hb); clear hb)
      | (go_at_call 21; (with_reducible refine (CC.out _ B0.out).mono ?_); rintro e w1 ⟨⟨AD, nD, AO, nO, rfl⟩, hb⟩; have B0 := Lib.hid (bl_alloc (bl_then B0.out hb) (.cells #[.slice AD 0 nD, .slice AO 0 nO] 24)); have K0 := Lib.hid (kb_new (Below.refl (w1.alloc (.cells #[.slice AD 0 nD, .slice AO 0 nO] 24)).heap.size (w1.alloc (.cells #[.slice AD 0 nD, .slice AO 0 nO] 24)))); clear hb)
      | (go_at_call 26; (with_reducible refine (LC.out _ B0.out).mono ?_); rintro e w2 ⟨rfl, hb⟩; have B0 := Lib.hid (bl_then B0.out hb); have q := kb_keep hb K0.out; have cc0 := kb_cell q (i := 0) rfl; have cc1 := kb_cell q (i := 1) rfl; clear hb q))
    go_ret
    exact ⟨rfl, by first | exact B0.out | exact bl_drewN B0.out _⟩
set_option maxHeartbeats 16000000 in
theorem sturmGives_yes {W : World} (A B : Option Addr) (cA cB : Nat) (p l : List Nat) (s : Nat) (hp : Fl W A p) (hl : Fl W B l) (wp : ∀ x ∈ p, W64 x) (wl : ∀ x ∈ l, W64 x) (hs : W64 s) (hT : Tab W) (h8 : p.length ≤ 8) (he : chordE p l s = 0) :
    Calls Tryd.prog 10 #[.slice A p.length cA, .slice B l.length cB, .float .f64 s] W fun e w' => e = .returned (.bool true) ∧ Below W.heap.size W w' := by
  have aw : ∀ w, Below W.heap.size W w → Calls Tryd.prog 11 #[] w fun e w' => e = .returned (.bool true) ∧ Below w.heap.size w w' := fun w h => awake_c w (hT.below h)
  have gd := gd_of wp wl hs he
  have cc : ∀ t, Ps t → ∀ w, Below W.heap.size W w → Calls Tryd.prog 21 #[.slice A p.length cA, .slice B l.length cB, .float .f64 t] w fun e w' => ∃ vD vO, e = .returned (.tuple #[.agg #[vD, vO], .int .i64 0]) ∧ Ow w' w.heap.size vD (chD p l t) ∧ Ow w' w.heap.size vO (chO p l t) ∧ Below w.heap.size w w' := fun t ht w h => by
    have := chord_c A B cA cB p l t w (hp.below h) (hl.below h) wp wl ht.w
    unfold ChP at this
    rw [gd_mk (gd.push ht)] at this
    exact this
  have lc : ∀ w, Below W.heap.size W w → Calls Tryd.prog 26 #[.slice A p.length cA, .slice B l.length cB, .float .f64 s] w (fun e w' => e = .returned (.tuple #[.float .f64 (leastL p l s), .float .f64 (leastH p l s), .int .i64 (leastE p l s)]) ∧ Below w.heap.size w w') := fun w h => least_c A B cA cB p l s w (hp.below h) (hl.below h) wp wl hs (hT.below h)
  have B0 := Lib.hid (Below.refl W.heap.size W)
  have AW := Lib.hid aw
  have HT := Lib.hid hT
  have GD := Lib.hid gd
  have gz := gd.push ps0
  have GZ := Lib.hid gz
  have CS := Lib.hid (cc s gd.s)
  have CZ := Lib.hid (cc 0 ps0)
  have E2 := Lib.hid ((gv_n gz).1 (gv_zero gz (by decide)))
  have k1 : decide (8 < (p.length : Int)) = false := decide_eq_false (by omega)
  have z0 : (FloatKind.f64.format.order 0 0 == some .eq) = true := by decide
  by_cases h1 : p.length = 1
  · have k2 : ((p.length : Int) == 1) = true := by simp; omega
    obtain ⟨i0, j0, j1, x1, y1, z1, w1⟩ := one_prop gd h1
    have HP := Lib.hid hp
    have HL := Lib.hid hl
    obtain ⟨P, hP⟩ : ∃ P, fdiv s l[0] = P := ⟨_, rfl⟩
    obtain ⟨Q, hQ⟩ : ∃ Q, fdiv s l[1] = Q := ⟨_, rfl⟩
    obtain ⟨R, hR⟩ : ∃ R, fadd P Q = R := ⟨_, rfl⟩
    rw [hP] at x1
    rw [hQ] at y1
    rw [hP, hQ, hR] at z1 w1
    have s1 : ∀ t w, (binOp .quo t (.float .f64 s) (.float .f64 l[0])).run Tryd.prog w = .ok (.float .f64 P) w := fun t w => run_float_arith w .quo t .f64 _ _ P x1
    have s2 : ∀ t w, (binOp .quo t (.float .f64 s) (.float .f64 l[1])).run Tryd.prog w = .ok (.float .f64 Q) w := fun t w => run_float_arith w .quo t .f64 _ _ Q y1
    have s3 : ∀ t w, (binOp .add t (.float .f64 P) (.float .f64 Q)).run Tryd.prog w = .ok (.float .f64 R) w := fun t w => run_float_arith w .add t .f64 _ _ R z1
    have j2 : (0 : Int) < (l.length : Int) := by omega
    have j3 : (1 : Int) < (l.length : Int) := by omega
    have j4 : (0 : Int) < (p.length : Int) := by omega
    obtain ⟨bt, hbt⟩ : ∃ bt, (FloatKind.f64.format.order p[0] R == some .lt) = bt := ⟨_, rfl⟩
    have w2 : (exactN (chD p l s) (chO p l s) 0 == 1) = bt := by rw [← hbt]; exact w1
    clear x1 y1 z1 w1 hP hQ hR
    cases hg : gvB p l s
    · have E1 := Lib.hid ((gv_n gd).1 hg)
      have le : leastE p l s = 270 := by unfold leastE; rw [if_pos he, hg]; rfl
      have l1 : leastL p l s = 0 := if_neg (by rw [le]; decide)
      have l2 : leastH p l s = 0 := if_neg (by rw [le]; decide)
      rw [le, l1, l2] at lc
      have LE := Lib.hid lc
      have bf : bt = false := by rw [← w2, E1.out]; rfl
      subst bf
      clear le l1 l2 lc hp hl wp wl hs hT aw h8 he gd gz cc hg h1 w2
      go_enter Tryd.func10, Tryd.ntmps10
      go_upto_region 15 with (first
        | (go_at_call 11; (with_reducible refine (AW.out _ B0.out).mono ?_); rintro e w1 ⟨rfl, hb⟩; have B0 := Lib.hid (bl_then B0.out hb); (try have G1 := Lib.hid (G1.out.then hb)); (try have G2 := Lib.hid (G2.out.then hb)); (try have G3 := Lib.hid (G3.out.then hb)); (try have G4 := Lib.hid (G4.out.then hb)); (try (have q := G1.out.k; have cc0 := kb_cell q (i := 0) rfl; have cc1 := kb_cell q (i := 1) rfl; clear q)); (try (have q := G2.out.k; have cc0 := kb_cell q (i := 0) rfl; have cc1 := kb_cell q (i := 1) rfl; clear q)); (try (have q := G3.out.k; have cc0 := kb_cell q (i := 0) rfl; have cc1 := kb_cell q (i := 1) rfl; clear q)); (try (have q := G4.out.k; have cc0 := kb_cell q (i := 0) rfl; have cc1 := kb_cell q (i := 1) rfl; clear q)); clear hb)
        | (go_at_call 21; (with_reducible refine (CS.out _ B0.out).mono ?_); rintro e w1 ⟨vD, vO, rfl, hD, hO, hb⟩; obtain ⟨AD, nD, rfl, hnD, fD⟩ := ow_sl hD; obtain ⟨AO, nO, rfl, hnO, fO⟩ := ow_sl hO; have hg := GS.mk_ fD fO hnD hnO; have B0 := Lib.hid (bl_alloc (bl_then B0.out hb) (.cells #[.slice AD (chD p l s).length nD, .slice AO (chO p l s).length nO] 24)); (try have G2 := Lib.hid (G2.out.then (bl_alloc hb (.cells #[.slice AD (chD p l s).length nD, .slice AO (chO p l s).length nO] 24)))); (try have G3 := Lib.hid (G3.out.then (bl_alloc hb (.cells #[.slice AD (chD p l s).length nD, .slice AO (chO p l s).length nO] 24)))); (try have G4 := Lib.hid (G4.out.then (bl_alloc hb (.cells #[.slice AD (chD p l s).length nD, .slice AO (chO p l s).length nO] 24)))); have G1 := Lib.hid hg; clear hg fD fO hnD hnO hD hO hb; (try (have q := G1.out.k; have cc0 := kb_cell q (i := 0) rfl; have cc1 := kb_cell q (i := 1) rfl; clear q)); (try (have q := G2.out.k; have cc0 := kb_cell q (i := 0) rfl; have cc1 := kb_cell q (i := 1) rfl; clear q)); (try (have q := G3.out.k; have cc0 := kb_cell q (i := 0) rfl; have cc1 := kb_cell q (i := 1) rfl; clear q)); (try (have q := G4.out.k; have cc0 := kb_cell q (i := 0) rfl; have cc1 := kb_cell q (i := 1) rfl; clear q)))
        | (go_at_call 26; (with_reducible refine (LE.out _ B0.out).mono ?_); rintro e w1 ⟨rfl, hb⟩; have B0 := Lib.hid (bl_then B0.out hb); (try have G1 := Lib.hid (G1.out.then hb)); (try have G2 := Lib.hid (G2.out.then hb)); (try have G3 := Lib.hid (G3.out.then hb)); (try have G4 := Lib.hid (G4.out.then hb)); (try (have q := G1.out.k; have cc0 := kb_cell q (i := 0) rfl; have cc1 := kb_cell q (i := 1) rfl; clear q)); (try (have q := G2.out.k; have cc0 := kb_cell q (i := 0) rfl; have cc1 := kb_cell q (i := 1) rfl; clear q)); (try (have q := G3.out.k; have cc0 := kb_cell q (i := 0) rfl; have cc1 := kb_cell q (i := 1) rfl; clear q)); (try (have q := G4.out.k; have cc0 := kb_cell q (i := 0) rfl; have cc1 := kb_cell q (i := 1) rfl; clear q)); clear hb)
        | (go_at_call 15; (with_reducible refine ((G1.out.exact GD.out (HT.out.below B0.out))).mono ?_); rintro e w2 ⟨rfl, hb⟩; try rw [E1.out]; have B0 := Lib.hid (bl_then B0.out hb); (try have G1 := Lib.hid (G1.out.then hb)); (try have G2 := Lib.hid (G2.out.then hb)); (try have G3 := Lib.hid (G3.out.then hb)); (try have G4 := Lib.hid (G4.out.then hb)); (try (have q := G1.out.k; have cc0 := kb_cell q (i := 0) rfl; have cc1 := kb_cell q (i := 1) rfl; clear q)); (try (have q := G2.out.k; have cc0 := kb_cell q (i := 0) rfl; have cc1 := kb_cell q (i := 1) rfl; clear q)); (try (have q := G3.out.k; have cc0 := kb_cell q (i := 0) rfl; have cc1 := kb_cell q (i := 1) rfl; clear q)); (try (have q := G4.out.k; have cc0 := kb_cell q (i := 0) rfl; have cc1 := kb_cell q (i := 1) rfl; clear q)); clear hb)
        | (go_at_call 21; (with_reducible refine (CZ.out _ B0.out).mono ?_); rintro e w1 ⟨vD, vO, rfl, hD, hO, hb⟩; obtain ⟨AD, nD, rfl, hnD, fD⟩ := ow_sl hD; obtain ⟨AO, nO, rfl, hnO, fO⟩ := ow_sl hO; have hg := GS.mk_ fD fO hnD hnO; have B0 := Lib.hid (bl_alloc (bl_then B0.out hb) (.cells #[.slice AD (chD p l 0).length nD, .slice AO (chO p l 0).length nO] 24)); (try have G1 := Lib.hid (G1.out.then (bl_alloc hb (.cells #[.slice AD (chD p l 0).length nD, .slice AO (chO p l 0).length nO] 24)))); (try have G3 := Lib.hid (G3.out.then (bl_alloc hb (.cells #[.slice AD (chD p l 0).length nD, .slice AO (chO p l 0).length nO] 24)))); (try have G4 := Lib.hid (G4.out.then (bl_alloc hb (.cells #[.slice AD (chD p l 0).length nD, .slice AO (chO p l 0).length nO] 24)))); have G2 := Lib.hid hg; clear hg fD fO hnD hnO hD hO hb; (try (have q := G1.out.k; have cc0 := kb_cell q (i := 0) rfl; have cc1 := kb_cell q (i := 1) rfl; clear q)); (try (have q := G2.out.k; have cc0 := kb_cell q (i := 0) rfl; have cc1 := kb_cell q (i := 1) rfl; clear q)); (try (have q := G3.out.k; have cc0 := kb_cell q (i := 0) rfl; have cc1 := kb_cell q (i := 1) rfl; clear q)); (try (have q := G4.out.k; have cc0 := kb_cell q (i := 0) rfl; have cc1 := kb_cell q (i := 1) rfl; clear q)))
        | (go_at_call 15; (with_reducible refine ((G2.out.exact GZ.out (HT.out.below B0.out))).mono ?_); rintro e w2 ⟨rfl, hb⟩; try rw [E2.out]; have B0 := Lib.hid (bl_then B0.out hb); (try have G1 := Lib.hid (G1.out.then hb)); (try have G2 := Lib.hid (G2.out.then hb)); (try have G3 := Lib.hid (G3.out.then hb)); (try have G4 := Lib.hid (G4.out.then hb)); (try (have q := G1.out.k; have cc0 := kb_cell q (i := 0) rfl; have cc1 := kb_cell q (i := 1) rfl; clear q)); (try (have q := G2.out.k; have cc0 := kb_cell q (i := 0) rfl; have cc1 := kb_cell q (i := 1) rfl; clear q)); (try (have q := G3.out.k; have cc0 := kb_cell q (i := 0) rfl; have cc1 := kb_cell q (i := 1) rfl; clear q)); (try (have q := G4.out.k; have cc0 := kb_cell q (i := 0) rfl; have cc1 := kb_cell q (i := 1) rfl; clear q)); clear hb)
        | (go_at_call 13; (with_reducible refine (G1.out.right GD.out).mono ?_); rintro e w2 ⟨rfl, hb⟩; have B0 := Lib.hid (bl_then B0.out hb); (try have G1 := Lib.hid (G1.out.then hb)); (try have G2 := Lib.hid (G2.out.then hb)); (try have G3 := Lib.hid (G3.out.then hb)); (try have G4 := Lib.hid (G4.out.then hb)); (try (have q := G1.out.k; have cc0 := kb_cell q (i := 0) rfl; have cc1 := kb_cell q (i := 1) rfl; clear q)); (try (have q := G2.out.k; have cc0 := kb_cell q (i := 0) rfl; have cc1 := kb_cell q (i := 1) rfl; clear q)); (try (have q := G3.out.k; have cc0 := kb_cell q (i := 0) rfl; have cc1 := kb_cell q (i := 1) rfl; clear q)); (try (have q := G4.out.k; have cc0 := kb_cell q (i := 0) rfl; have cc1 := kb_cell q (i := 1) rfl; clear q)); clear hb))
      obtain ⟨pd, rfl, d0⟩ := (HP.out.below B0.out).at i0
      obtain ⟨bd, rfl, d1⟩ := (HL.out.below B0.out).at j0
      obtain ⟨bd', hbd, d2⟩ := (HL.out.below B0.out).at j1
      injection hbd with hbd
      subst hbd
      have c1 : w2.cell? bd = some (.float .f64 l[0]) := by simpa [World.cell?, Addr.add] using d1
      have c2 : w2.cell? ⟨bd.block, bd.off + 1, none⟩ = some (.float .f64 l[1]) := by simpa [World.cell?, Addr.add] using d2
      have c3 : w2.cell? pd = some (.float .f64 p[0]) := by simpa [World.cell?, Addr.add] using d0
      go_region_held3 (fun w => w.cell? bd = some (.float .f64 l[0]) ∧ w.cell? ⟨bd.block, bd.off + 1, none⟩ = some (.float .f64 l[1])) (go_keep) (fail)
      have c4 : w2.drew.cell? pd = some (.float .f64 p[0]) := c3
      go_wp2
      go_ret
      exact ⟨rfl, by first | exact bl_drew B0.out | exact B0.out | exact bl_drewN B0.out _⟩
    · obtain ⟨P0, m1, m2, m3, m4, m5, m6, m7⟩ := least_good gd hg
      have r2 := (ps_r2 gd.s).2
      have gl := gd.push (atW_ps (q := P0) m4 (by omega))
      have gh := gd.push (atW_ps (q := P0 + 1) (by omega) (by omega))
      have GL := Lib.hid gl
      have GH := Lib.hid gh
      have CL := Lib.hid (cc _ gl.s)
      have CH := Lib.hid (cc _ gh.s)
      have E3 := Lib.hid ((gv_n gl).1 m6)
      obtain ⟨N, hN⟩ : ∃ N, exactN (chD p l s) (chO p l s) 0 = N := ⟨_, rfl⟩
      obtain ⟨M, hM⟩ : ∃ M, exactN (chD p l (atW (P0 + 1))) (chO p l (atW (P0 + 1))) 0 = M := ⟨_, rfl⟩
      have n1 := (gv_n gd).2 hg
      have n2 := (gv_n gh).2 m7
      rw [hN] at n1
      rw [hM] at n2
      have E1 := Lib.hid hN
      have E4 := Lib.hid hM
      have k3 : (N == 0) = false := by simp; omega
      have k4 : decide (0 < M) = true := decide_eq_true n2
      have q1 := atW_p (p := P0) (by omega) (by omega)
      have q2 := atW_p (p := P0 + 1) (by omega) (by omega)
      have p1 := place_c (atW P0) gl.s.w
      have p2 := place_c (atW (P0 + 1)) gh.s.w
      rw [q1.2.2, q1.2.1] at p1
      rw [q2.2.2, q2.2.1] at p2
      have P1 := Lib.hid p1
      have P2 := Lib.hid p2
      have ep : wrap64 (P0 + 1) = P0 + 1 := by unfold wrap64; omega
      have t1 : (FloatKind.f64.format.order (atW P0) 0 == some .gt || FloatKind.f64.format.order (atW P0) 0 == some .eq) = true := by
        rw [t_ge gl.s.w zeroW, q1.2.1, q1.1, isn0, plc0]; simp; omega
      have t2 : (FloatKind.f64.format.order (atW (P0 + 1)) s == some .lt || FloatKind.f64.format.order (atW (P0 + 1)) s == some .eq) = true := by
        rw [t_le gh.s.w hs, q2.2.1, q2.1, show isn s = false by rw [isn_eq]; have := gd.s.hi; simp; omega]; simp; omega
      rw [m1, m2, m3] at lc
      have LE := Lib.hid lc
      have e1 : exactN (chD p l s) (chO p l s) 0 = 1 := by
        have r := (St.cnt_range 0 ((chD p l s).map val) ((chO p l s).map val)).2
        rw [← (ch_right gd).2.2, List.length_map, (ch_cf gd).2.2.1, h1] at r
        have := (gv_n gd).2 hg
        omega
      obtain rfl : N = 1 := by omega
      have bf : bt = true := by rw [← w2, e1]; rfl
      subst bf
      clear w2 e1 lc hp hl wp wl hs hT aw h8 he gd gz cc hg h1 m1 m2 m3 m4 m5 m6 m7 r2 gl gh hN hM n1 n2 q1 q2 p1 p2
      go_enter Tryd.func10, Tryd.ntmps10
      go_upto_region 15 with (first
        | (go_at_call 11; (with_reducible refine (AW.out _ B0.out).mono ?_); rintro e w1 ⟨rfl, hb⟩; have B0 := Lib.hid (bl_then B0.out hb); (try have G1 := Lib.hid (G1.out.then hb)); (try have G2 := Lib.hid (G2.out.then hb)); (try have G3 := Lib.hid (G3.out.then hb)); (try have G4 := Lib.hid (G4.out.then hb)); (try (have q := G1.out.k; have cc0 := kb_cell q (i := 0) rfl; have cc1 := kb_cell q (i := 1) rfl; clear q)); (try (have q := G2.out.k; have cc0 := kb_cell q (i := 0) rfl; have cc1 := kb_cell q (i := 1) rfl; clear q)); (try (have q := G3.out.k; have cc0 := kb_cell q (i := 0) rfl; have cc1 := kb_cell q (i := 1) rfl; clear q)); (try (have q := G4.out.k; have cc0 := kb_cell q (i := 0) rfl; have cc1 := kb_cell q (i := 1) rfl; clear q)); clear hb)
        | (go_at_call 21; (with_reducible refine (CS.out _ B0.out).mono ?_); rintro e w1 ⟨vD, vO, rfl, hD, hO, hb⟩; obtain ⟨AD, nD, rfl, hnD, fD⟩ := ow_sl hD; obtain ⟨AO, nO, rfl, hnO, fO⟩ := ow_sl hO; have hg := GS.mk_ fD fO hnD hnO; have B0 := Lib.hid (bl_alloc (bl_then B0.out hb) (.cells #[.slice AD (chD p l s).length nD, .slice AO (chO p l s).length nO] 24)); (try have G2 := Lib.hid (G2.out.then (bl_alloc hb (.cells #[.slice AD (chD p l s).length nD, .slice AO (chO p l s).length nO] 24)))); (try have G3 := Lib.hid (G3.out.then (bl_alloc hb (.cells #[.slice AD (chD p l s).length nD, .slice AO (chO p l s).length nO] 24)))); (try have G4 := Lib.hid (G4.out.then (bl_alloc hb (.cells #[.slice AD (chD p l s).length nD, .slice AO (chO p l s).length nO] 24)))); have G1 := Lib.hid hg; clear hg fD fO hnD hnO hD hO hb; (try (have q := G1.out.k; have cc0 := kb_cell q (i := 0) rfl; have cc1 := kb_cell q (i := 1) rfl; clear q)); (try (have q := G2.out.k; have cc0 := kb_cell q (i := 0) rfl; have cc1 := kb_cell q (i := 1) rfl; clear q)); (try (have q := G3.out.k; have cc0 := kb_cell q (i := 0) rfl; have cc1 := kb_cell q (i := 1) rfl; clear q)); (try (have q := G4.out.k; have cc0 := kb_cell q (i := 0) rfl; have cc1 := kb_cell q (i := 1) rfl; clear q)))
        | (go_at_call 26; (with_reducible refine (LE.out _ B0.out).mono ?_); rintro e w1 ⟨rfl, hb⟩; have B0 := Lib.hid (bl_then B0.out hb); (try have G1 := Lib.hid (G1.out.then hb)); (try have G2 := Lib.hid (G2.out.then hb)); (try have G3 := Lib.hid (G3.out.then hb)); (try have G4 := Lib.hid (G4.out.then hb)); (try (have q := G1.out.k; have cc0 := kb_cell q (i := 0) rfl; have cc1 := kb_cell q (i := 1) rfl; clear q)); (try (have q := G2.out.k; have cc0 := kb_cell q (i := 0) rfl; have cc1 := kb_cell q (i := 1) rfl; clear q)); (try (have q := G3.out.k; have cc0 := kb_cell q (i := 0) rfl; have cc1 := kb_cell q (i := 1) rfl; clear q)); (try (have q := G4.out.k; have cc0 := kb_cell q (i := 0) rfl; have cc1 := kb_cell q (i := 1) rfl; clear q)); clear hb)
        | (go_at_call 15; (with_reducible refine ((G1.out.exact GD.out (HT.out.below B0.out))).mono ?_); rintro e w2 ⟨rfl, hb⟩; try rw [E1.out]; have B0 := Lib.hid (bl_then B0.out hb); (try have G1 := Lib.hid (G1.out.then hb)); (try have G2 := Lib.hid (G2.out.then hb)); (try have G3 := Lib.hid (G3.out.then hb)); (try have G4 := Lib.hid (G4.out.then hb)); (try (have q := G1.out.k; have cc0 := kb_cell q (i := 0) rfl; have cc1 := kb_cell q (i := 1) rfl; clear q)); (try (have q := G2.out.k; have cc0 := kb_cell q (i := 0) rfl; have cc1 := kb_cell q (i := 1) rfl; clear q)); (try (have q := G3.out.k; have cc0 := kb_cell q (i := 0) rfl; have cc1 := kb_cell q (i := 1) rfl; clear q)); (try (have q := G4.out.k; have cc0 := kb_cell q (i := 0) rfl; have cc1 := kb_cell q (i := 1) rfl; clear q)); clear hb)
        | (go_at_call 21; (with_reducible refine (CZ.out _ B0.out).mono ?_); rintro e w1 ⟨vD, vO, rfl, hD, hO, hb⟩; obtain ⟨AD, nD, rfl, hnD, fD⟩ := ow_sl hD; obtain ⟨AO, nO, rfl, hnO, fO⟩ := ow_sl hO; have hg := GS.mk_ fD fO hnD hnO; have B0 := Lib.hid (bl_alloc (bl_then B0.out hb) (.cells #[.slice AD (chD p l 0).length nD, .slice AO (chO p l 0).length nO] 24)); (try have G1 := Lib.hid (G1.out.then (bl_alloc hb (.cells #[.slice AD (chD p l 0).length nD, .slice AO (chO p l 0).length nO] 24)))); (try have G3 := Lib.hid (G3.out.then (bl_alloc hb (.cells #[.slice AD (chD p l 0).length nD, .slice AO (chO p l 0).length nO] 24)))); (try have G4 := Lib.hid (G4.out.then (bl_alloc hb (.cells #[.slice AD (chD p l 0).length nD, .slice AO (chO p l 0).length nO] 24)))); have G2 := Lib.hid hg; clear hg fD fO hnD hnO hD hO hb; (try (have q := G1.out.k; have cc0 := kb_cell q (i := 0) rfl; have cc1 := kb_cell q (i := 1) rfl; clear q)); (try (have q := G2.out.k; have cc0 := kb_cell q (i := 0) rfl; have cc1 := kb_cell q (i := 1) rfl; clear q)); (try (have q := G3.out.k; have cc0 := kb_cell q (i := 0) rfl; have cc1 := kb_cell q (i := 1) rfl; clear q)); (try (have q := G4.out.k; have cc0 := kb_cell q (i := 0) rfl; have cc1 := kb_cell q (i := 1) rfl; clear q)))
        | (go_at_call 15; (with_reducible refine ((G2.out.exact GZ.out (HT.out.below B0.out))).mono ?_); rintro e w2 ⟨rfl, hb⟩; try rw [E2.out]; have B0 := Lib.hid (bl_then B0.out hb); (try have G1 := Lib.hid (G1.out.then hb)); (try have G2 := Lib.hid (G2.out.then hb)); (try have G3 := Lib.hid (G3.out.then hb)); (try have G4 := Lib.hid (G4.out.then hb)); (try (have q := G1.out.k; have cc0 := kb_cell q (i := 0) rfl; have cc1 := kb_cell q (i := 1) rfl; clear q)); (try (have q := G2.out.k; have cc0 := kb_cell q (i := 0) rfl; have cc1 := kb_cell q (i := 1) rfl; clear q)); (try (have q := G3.out.k; have cc0 := kb_cell q (i := 0) rfl; have cc1 := kb_cell q (i := 1) rfl; clear q)); (try (have q := G4.out.k; have cc0 := kb_cell q (i := 0) rfl; have cc1 := kb_cell q (i := 1) rfl; clear q)); clear hb)
        | (go_at_call 13; (with_reducible refine (G1.out.right GD.out).mono ?_); rintro e w2 ⟨rfl, hb⟩; have B0 := Lib.hid (bl_then B0.out hb); (try have G1 := Lib.hid (G1.out.then hb)); (try have G2 := Lib.hid (G2.out.then hb)); (try have G3 := Lib.hid (G3.out.then hb)); (try have G4 := Lib.hid (G4.out.then hb)); (try (have q := G1.out.k; have cc0 := kb_cell q (i := 0) rfl; have cc1 := kb_cell q (i := 1) rfl; clear q)); (try (have q := G2.out.k; have cc0 := kb_cell q (i := 0) rfl; have cc1 := kb_cell q (i := 1) rfl; clear q)); (try (have q := G3.out.k; have cc0 := kb_cell q (i := 0) rfl; have cc1 := kb_cell q (i := 1) rfl; clear q)); (try (have q := G4.out.k; have cc0 := kb_cell q (i := 0) rfl; have cc1 := kb_cell q (i := 1) rfl; clear q)); clear hb))
      obtain ⟨pd, rfl, d0⟩ := (HP.out.below B0.out).at i0
      obtain ⟨bd, rfl, d1⟩ := (HL.out.below B0.out).at j0
      obtain ⟨bd', hbd, d2⟩ := (HL.out.below B0.out).at j1
      injection hbd with hbd
      subst hbd
      have c1 : w2.cell? bd = some (.float .f64 l[0]) := by simpa [World.cell?, Addr.add] using d1
      have c2 : w2.cell? ⟨bd.block, bd.off + 1, none⟩ = some (.float .f64 l[1]) := by simpa [World.cell?, Addr.add] using d2
      have c3 : w2.cell? pd = some (.float .f64 p[0]) := by simpa [World.cell?, Addr.add] using d0
      go_region_held3 (fun w => w.cell? bd = some (.float .f64 l[0]) ∧ w.cell? ⟨bd.block, bd.off + 1, none⟩ = some (.float .f64 l[1])) (go_keep) (fail)
      have c4 : w2.drew.cell? pd = some (.float .f64 p[0]) := c3
      have B0 := Lib.hid (bl_drew B0.out)
      go_wp2_with (first
        | (go_at_call 11; (with_reducible refine (AW.out _ B0.out).mono ?_); rintro e w1 ⟨rfl, hb⟩; have B0 := Lib.hid (bl_then B0.out hb); (try have G1 := Lib.hid (G1.out.then hb)); (try have G2 := Lib.hid (G2.out.then hb)); (try have G3 := Lib.hid (G3.out.then hb)); (try have G4 := Lib.hid (G4.out.then hb)); (try (have q := G1.out.k; have cc0 := kb_cell q (i := 0) rfl; have cc1 := kb_cell q (i := 1) rfl; clear q)); (try (have q := G2.out.k; have cc0 := kb_cell q (i := 0) rfl; have cc1 := kb_cell q (i := 1) rfl; clear q)); (try (have q := G3.out.k; have cc0 := kb_cell q (i := 0) rfl; have cc1 := kb_cell q (i := 1) rfl; clear q)); (try (have q := G4.out.k; have cc0 := kb_cell q (i := 0) rfl; have cc1 := kb_cell q (i := 1) rfl; clear q)); clear hb)
        | (go_at_call 21; (with_reducible refine (CS.out _ B0.out).mono ?_); rintro e w1 ⟨vD, vO, rfl, hD, hO, hb⟩; obtain ⟨AD, nD, rfl, hnD, fD⟩ := ow_sl hD; obtain ⟨AO, nO, rfl, hnO, fO⟩ := ow_sl hO; have hg := GS.mk_ fD fO hnD hnO; have B0 := Lib.hid (bl_alloc (bl_then B0.out hb) (.cells #[.slice AD (chD p l s).length nD, .slice AO (chO p l s).length nO] 24)); (try have G2 := Lib.hid (G2.out.then (bl_alloc hb (.cells #[.slice AD (chD p l s).length nD, .slice AO (chO p l s).length nO] 24)))); (try have G3 := Lib.hid (G3.out.then (bl_alloc hb (.cells #[.slice AD (chD p l s).length nD, .slice AO (chO p l s).length nO] 24)))); (try have G4 := Lib.hid (G4.out.then (bl_alloc hb (.cells #[.slice AD (chD p l s).length nD, .slice AO (chO p l s).length nO] 24)))); have G1 := Lib.hid hg; clear hg fD fO hnD hnO hD hO hb; (try (have q := G1.out.k; have cc0 := kb_cell q (i := 0) rfl; have cc1 := kb_cell q (i := 1) rfl; clear q)); (try (have q := G2.out.k; have cc0 := kb_cell q (i := 0) rfl; have cc1 := kb_cell q (i := 1) rfl; clear q)); (try (have q := G3.out.k; have cc0 := kb_cell q (i := 0) rfl; have cc1 := kb_cell q (i := 1) rfl; clear q)); (try (have q := G4.out.k; have cc0 := kb_cell q (i := 0) rfl; have cc1 := kb_cell q (i := 1) rfl; clear q)))
        | (go_at_call 26; (with_reducible refine (LE.out _ B0.out).mono ?_); rintro e w1 ⟨rfl, hb⟩; have B0 := Lib.hid (bl_then B0.out hb); (try have G1 := Lib.hid (G1.out.then hb)); (try have G2 := Lib.hid (G2.out.then hb)); (try have G3 := Lib.hid (G3.out.then hb)); (try have G4 := Lib.hid (G4.out.then hb)); (try (have q := G1.out.k; have cc0 := kb_cell q (i := 0) rfl; have cc1 := kb_cell q (i := 1) rfl; clear q)); (try (have q := G2.out.k; have cc0 := kb_cell q (i := 0) rfl; have cc1 := kb_cell q (i := 1) rfl; clear q)); (try (have q := G3.out.k; have cc0 := kb_cell q (i := 0) rfl; have cc1 := kb_cell q (i := 1) rfl; clear q)); (try (have q := G4.out.k; have cc0 := kb_cell q (i := 0) rfl; have cc1 := kb_cell q (i := 1) rfl; clear q)); clear hb)
        | (go_at_call 15; (with_reducible refine ((G1.out.exact GD.out (HT.out.below B0.out))).mono ?_); rintro e w2 ⟨rfl, hb⟩; try rw [E1.out]; have B0 := Lib.hid (bl_then B0.out hb); (try have G1 := Lib.hid (G1.out.then hb)); (try have G2 := Lib.hid (G2.out.then hb)); (try have G3 := Lib.hid (G3.out.then hb)); (try have G4 := Lib.hid (G4.out.then hb)); (try (have q := G1.out.k; have cc0 := kb_cell q (i := 0) rfl; have cc1 := kb_cell q (i := 1) rfl; clear q)); (try (have q := G2.out.k; have cc0 := kb_cell q (i := 0) rfl; have cc1 := kb_cell q (i := 1) rfl; clear q)); (try (have q := G3.out.k; have cc0 := kb_cell q (i := 0) rfl; have cc1 := kb_cell q (i := 1) rfl; clear q)); (try (have q := G4.out.k; have cc0 := kb_cell q (i := 0) rfl; have cc1 := kb_cell q (i := 1) rfl; clear q)); clear hb)
        | (go_at_call 21; (with_reducible refine (CZ.out _ B0.out).mono ?_); rintro e w1 ⟨vD, vO, rfl, hD, hO, hb⟩; obtain ⟨AD, nD, rfl, hnD, fD⟩ := ow_sl hD; obtain ⟨AO, nO, rfl, hnO, fO⟩ := ow_sl hO; have hg := GS.mk_ fD fO hnD hnO; have B0 := Lib.hid (bl_alloc (bl_then B0.out hb) (.cells #[.slice AD (chD p l 0).length nD, .slice AO (chO p l 0).length nO] 24)); (try have G1 := Lib.hid (G1.out.then (bl_alloc hb (.cells #[.slice AD (chD p l 0).length nD, .slice AO (chO p l 0).length nO] 24)))); (try have G3 := Lib.hid (G3.out.then (bl_alloc hb (.cells #[.slice AD (chD p l 0).length nD, .slice AO (chO p l 0).length nO] 24)))); (try have G4 := Lib.hid (G4.out.then (bl_alloc hb (.cells #[.slice AD (chD p l 0).length nD, .slice AO (chO p l 0).length nO] 24)))); have G2 := Lib.hid hg; clear hg fD fO hnD hnO hD hO hb; (try (have q := G1.out.k; have cc0 := kb_cell q (i := 0) rfl; have cc1 := kb_cell q (i := 1) rfl; clear q)); (try (have q := G2.out.k; have cc0 := kb_cell q (i := 0) rfl; have cc1 := kb_cell q (i := 1) rfl; clear q)); (try (have q := G3.out.k; have cc0 := kb_cell q (i := 0) rfl; have cc1 := kb_cell q (i := 1) rfl; clear q)); (try (have q := G4.out.k; have cc0 := kb_cell q (i := 0) rfl; have cc1 := kb_cell q (i := 1) rfl; clear q)))
        | (go_at_call 15; (with_reducible refine ((G2.out.exact GZ.out (HT.out.below B0.out))).mono ?_); rintro e w2 ⟨rfl, hb⟩; try rw [E2.out]; have B0 := Lib.hid (bl_then B0.out hb); (try have G1 := Lib.hid (G1.out.then hb)); (try have G2 := Lib.hid (G2.out.then hb)); (try have G3 := Lib.hid (G3.out.then hb)); (try have G4 := Lib.hid (G4.out.then hb)); (try (have q := G1.out.k; have cc0 := kb_cell q (i := 0) rfl; have cc1 := kb_cell q (i := 1) rfl; clear q)); (try (have q := G2.out.k; have cc0 := kb_cell q (i := 0) rfl; have cc1 := kb_cell q (i := 1) rfl; clear q)); (try (have q := G3.out.k; have cc0 := kb_cell q (i := 0) rfl; have cc1 := kb_cell q (i := 1) rfl; clear q)); (try (have q := G4.out.k; have cc0 := kb_cell q (i := 0) rfl; have cc1 := kb_cell q (i := 1) rfl; clear q)); clear hb)
        | (go_at_call 13; (with_reducible refine (G1.out.right GD.out).mono ?_); rintro e w2 ⟨rfl, hb⟩; have B0 := Lib.hid (bl_then B0.out hb); (try have G1 := Lib.hid (G1.out.then hb)); (try have G2 := Lib.hid (G2.out.then hb)); (try have G3 := Lib.hid (G3.out.then hb)); (try have G4 := Lib.hid (G4.out.then hb)); (try (have q := G1.out.k; have cc0 := kb_cell q (i := 0) rfl; have cc1 := kb_cell q (i := 1) rfl; clear q)); (try (have q := G2.out.k; have cc0 := kb_cell q (i := 0) rfl; have cc1 := kb_cell q (i := 1) rfl; clear q)); (try (have q := G3.out.k; have cc0 := kb_cell q (i := 0) rfl; have cc1 := kb_cell q (i := 1) rfl; clear q)); (try (have q := G4.out.k; have cc0 := kb_cell q (i := 0) rfl; have cc1 := kb_cell q (i := 1) rfl; clear q)); clear hb)
        | (go_at_call 21; (with_reducible refine (CL.out _ B0.out).mono ?_); rintro e w1 ⟨vD, vO, rfl, hD, hO, hb⟩; obtain ⟨AD, nD, rfl, hnD, fD⟩ := ow_sl hD; obtain ⟨AO, nO, rfl, hnO, fO⟩ := ow_sl hO; have hg := GS.mk_ fD fO hnD hnO; have B0 := Lib.hid (bl_alloc (bl_then B0.out hb) (.cells #[.slice AD (chD p l (atW P0)).length nD, .slice AO (chO p l (atW P0)).length nO] 24)); (try have G1 := Lib.hid (G1.out.then (bl_alloc hb (.cells #[.slice AD (chD p l (atW P0)).length nD, .slice AO (chO p l (atW P0)).length nO] 24)))); (try have G2 := Lib.hid (G2.out.then (bl_alloc hb (.cells #[.slice AD (chD p l (atW P0)).length nD, .slice AO (chO p l (atW P0)).length nO] 24)))); (try have G4 := Lib.hid (G4.out.then (bl_alloc hb (.cells #[.slice AD (chD p l (atW P0)).length nD, .slice AO (chO p l (atW P0)).length nO] 24)))); have G3 := Lib.hid hg; clear hg fD fO hnD hnO hD hO hb; (try (have q := G1.out.k; have cc0 := kb_cell q (i := 0) rfl; have cc1 := kb_cell q (i := 1) rfl; clear q)); (try (have q := G2.out.k; have cc0 := kb_cell q (i := 0) rfl; have cc1 := kb_cell q (i := 1) rfl; clear q)); (try (have q := G3.out.k; have cc0 := kb_cell q (i := 0) rfl; have cc1 := kb_cell q (i := 1) rfl; clear q)); (try (have q := G4.out.k; have cc0 := kb_cell q (i := 0) rfl; have cc1 := kb_cell q (i := 1) rfl; clear q)))
        | (go_at_call 21; (with_reducible refine (CH.out _ B0.out).mono ?_); rintro e w1 ⟨vD, vO, rfl, hD, hO, hb⟩; obtain ⟨AD, nD, rfl, hnD, fD⟩ := ow_sl hD; obtain ⟨AO, nO, rfl, hnO, fO⟩ := ow_sl hO; have hg := GS.mk_ fD fO hnD hnO; have B0 := Lib.hid (bl_alloc (bl_then B0.out hb) (.cells #[.slice AD (chD p l (atW (P0 + 1))).length nD, .slice AO (chO p l (atW (P0 + 1))).length nO] 24)); (try have G1 := Lib.hid (G1.out.then (bl_alloc hb (.cells #[.slice AD (chD p l (atW (P0 + 1))).length nD, .slice AO (chO p l (atW (P0 + 1))).length nO] 24)))); (try have G2 := Lib.hid (G2.out.then (bl_alloc hb (.cells #[.slice AD (chD p l (atW (P0 + 1))).length nD, .slice AO (chO p l (atW (P0 + 1))).length nO] 24)))); (try have G3 := Lib.hid (G3.out.then (bl_alloc hb (.cells #[.slice AD (chD p l (atW (P0 + 1))).length nD, .slice AO (chO p l (atW (P0 + 1))).length nO] 24)))); have G4 := Lib.hid hg; clear hg fD fO hnD hnO hD hO hb; (try (have q := G1.out.k; have cc0 := kb_cell q (i := 0) rfl; have cc1 := kb_cell q (i := 1) rfl; clear q)); (try (have q := G2.out.k; have cc0 := kb_cell q (i := 0) rfl; have cc1 := kb_cell q (i := 1) rfl; clear q)); (try (have q := G3.out.k; have cc0 := kb_cell q (i := 0) rfl; have cc1 := kb_cell q (i := 1) rfl; clear q)); (try (have q := G4.out.k; have cc0 := kb_cell q (i := 0) rfl; have cc1 := kb_cell q (i := 1) rfl; clear q)))
        | (go_at_call 15; (with_reducible refine ((G3.out.exact GL.out (HT.out.below B0.out))).mono ?_); rintro e w2 ⟨rfl, hb⟩; try rw [E3.out]; have B0 := Lib.hid (bl_then B0.out hb); (try have G1 := Lib.hid (G1.out.then hb)); (try have G2 := Lib.hid (G2.out.then hb)); (try have G3 := Lib.hid (G3.out.then hb)); (try have G4 := Lib.hid (G4.out.then hb)); (try (have q := G1.out.k; have cc0 := kb_cell q (i := 0) rfl; have cc1 := kb_cell q (i := 1) rfl; clear q)); (try (have q := G2.out.k; have cc0 := kb_cell q (i := 0) rfl; have cc1 := kb_cell q (i := 1) rfl; clear q)); (try (have q := G3.out.k; have cc0 := kb_cell q (i := 0) rfl; have cc1 := kb_cell q (i := 1) rfl; clear q)); (try (have q := G4.out.k; have cc0 := kb_cell q (i := 0) rfl; have cc1 := kb_cell q (i := 1) rfl; clear q)); clear hb)
        | (go_at_call 15; (with_reducible refine ((G4.out.exact GH.out (HT.out.below B0.out))).mono ?_); rintro e w2 ⟨rfl, hb⟩; try rw [E4.out]; have B0 := Lib.hid (bl_then B0.out hb); (try have G1 := Lib.hid (G1.out.then hb)); (try have G2 := Lib.hid (G2.out.then hb)); (try have G3 := Lib.hid (G3.out.then hb)); (try have G4 := Lib.hid (G4.out.then hb)); (try (have q := G1.out.k; have cc0 := kb_cell q (i := 0) rfl; have cc1 := kb_cell q (i := 1) rfl; clear q)); (try (have q := G2.out.k; have cc0 := kb_cell q (i := 0) rfl; have cc1 := kb_cell q (i := 1) rfl; clear q)); (try (have q := G3.out.k; have cc0 := kb_cell q (i := 0) rfl; have cc1 := kb_cell q (i := 1) rfl; clear q)); (try (have q := G4.out.k; have cc0 := kb_cell q (i := 0) rfl; have cc1 := kb_cell q (i := 1) rfl; clear q)); clear hb)
        | (go_at_call 32; (with_reducible refine (P1.out _).mono ?_); rintro e w' ⟨rfl, hw⟩; obtain rfl := hw.symm; clear hw)
        | (go_at_call 32; (with_reducible refine (P2.out _).mono ?_); rintro e w' ⟨rfl, hw⟩; obtain rfl := hw.symm; clear hw))
      go_ret
      exact ⟨rfl, by first | exact B0.out | exact bl_drewN B0.out _⟩
  · have k2 : ((p.length : Int) == 1) = false := by simp; omega
    cases hg : gvB p l s
    · have E1 := Lib.hid ((gv_n gd).1 hg)
      have le : leastE p l s = 270 := by unfold leastE; rw [if_pos he, hg]; rfl
      have l1 : leastL p l s = 0 := if_neg (by rw [le]; decide)
      have l2 : leastH p l s = 0 := if_neg (by rw [le]; decide)
      rw [le, l1, l2] at lc
      have LE := Lib.hid lc
      clear le l1 l2 lc hp hl wp wl hs hT aw h8 he gd gz cc hg h1
      go_enter Tryd.func10, Tryd.ntmps10
      go_wp2_with (first
        | (go_at_call 11; (with_reducible refine (AW.out _ B0.out).mono ?_); rintro e w1 ⟨rfl, hb⟩; have B0 := Lib.hid (bl_then B0.out hb); (try have G1 := Lib.hid (G1.out.then hb)); (try have G2 := Lib.hid (G2.out.then hb)); (try have G3 := Lib.hid (G3.out.then hb)); (try have G4 := Lib.hid (G4.out.then hb)); (try (have q := G1.out.k; have cc0 := kb_cell q (i := 0) rfl; have cc1 := kb_cell q (i := 1) rfl; clear q)); (try (have q := G2.out.k; have cc0 := kb_cell q (i := 0) rfl; have cc1 := kb_cell q (i := 1) rfl; clear q)); (try (have q := G3.out.k; have cc0 := kb_cell q (i := 0) rfl; have cc1 := kb_cell q (i := 1) rfl; clear q)); (try (have q := G4.out.k; have cc0 := kb_cell q (i := 0) rfl; have cc1 := kb_cell q (i := 1) rfl; clear q)); clear hb)
        | (go_at_call 21; (with_reducible refine (CS.out _ B0.out).mono ?_); rintro e w1 ⟨vD, vO, rfl, hD, hO, hb⟩; obtain ⟨AD, nD, rfl, hnD, fD⟩ := ow_sl hD; obtain ⟨AO, nO, rfl, hnO, fO⟩ := ow_sl hO; have hg := GS.mk_ fD fO hnD hnO; have B0 := Lib.hid (bl_alloc (bl_then B0.out hb) (.cells #[.slice AD (chD p l s).length nD, .slice AO (chO p l s).length nO] 24)); (try have G2 := Lib.hid (G2.out.then (bl_alloc hb (.cells #[.slice AD (chD p l s).length nD, .slice AO (chO p l s).length nO] 24)))); (try have G3 := Lib.hid (G3.out.then (bl_alloc hb (.cells #[.slice AD (chD p l s).length nD, .slice AO (chO p l s).length nO] 24)))); (try have G4 := Lib.hid (G4.out.then (bl_alloc hb (.cells #[.slice AD (chD p l s).length nD, .slice AO (chO p l s).length nO] 24)))); have G1 := Lib.hid hg; clear hg fD fO hnD hnO hD hO hb; (try (have q := G1.out.k; have cc0 := kb_cell q (i := 0) rfl; have cc1 := kb_cell q (i := 1) rfl; clear q)); (try (have q := G2.out.k; have cc0 := kb_cell q (i := 0) rfl; have cc1 := kb_cell q (i := 1) rfl; clear q)); (try (have q := G3.out.k; have cc0 := kb_cell q (i := 0) rfl; have cc1 := kb_cell q (i := 1) rfl; clear q)); (try (have q := G4.out.k; have cc0 := kb_cell q (i := 0) rfl; have cc1 := kb_cell q (i := 1) rfl; clear q)))
        | (go_at_call 26; (with_reducible refine (LE.out _ B0.out).mono ?_); rintro e w1 ⟨rfl, hb⟩; have B0 := Lib.hid (bl_then B0.out hb); (try have G1 := Lib.hid (G1.out.then hb)); (try have G2 := Lib.hid (G2.out.then hb)); (try have G3 := Lib.hid (G3.out.then hb)); (try have G4 := Lib.hid (G4.out.then hb)); (try (have q := G1.out.k; have cc0 := kb_cell q (i := 0) rfl; have cc1 := kb_cell q (i := 1) rfl; clear q)); (try (have q := G2.out.k; have cc0 := kb_cell q (i := 0) rfl; have cc1 := kb_cell q (i := 1) rfl; clear q)); (try (have q := G3.out.k; have cc0 := kb_cell q (i := 0) rfl; have cc1 := kb_cell q (i := 1) rfl; clear q)); (try (have q := G4.out.k; have cc0 := kb_cell q (i := 0) rfl; have cc1 := kb_cell q (i := 1) rfl; clear q)); clear hb)
        | (go_at_call 15; (with_reducible refine ((G1.out.exact GD.out (HT.out.below B0.out))).mono ?_); rintro e w2 ⟨rfl, hb⟩; try rw [E1.out]; have B0 := Lib.hid (bl_then B0.out hb); (try have G1 := Lib.hid (G1.out.then hb)); (try have G2 := Lib.hid (G2.out.then hb)); (try have G3 := Lib.hid (G3.out.then hb)); (try have G4 := Lib.hid (G4.out.then hb)); (try (have q := G1.out.k; have cc0 := kb_cell q (i := 0) rfl; have cc1 := kb_cell q (i := 1) rfl; clear q)); (try (have q := G2.out.k; have cc0 := kb_cell q (i := 0) rfl; have cc1 := kb_cell q (i := 1) rfl; clear q)); (try (have q := G3.out.k; have cc0 := kb_cell q (i := 0) rfl; have cc1 := kb_cell q (i := 1) rfl; clear q)); (try (have q := G4.out.k; have cc0 := kb_cell q (i := 0) rfl; have cc1 := kb_cell q (i := 1) rfl; clear q)); clear hb)
        | (go_at_call 21; (with_reducible refine (CZ.out _ B0.out).mono ?_); rintro e w1 ⟨vD, vO, rfl, hD, hO, hb⟩; obtain ⟨AD, nD, rfl, hnD, fD⟩ := ow_sl hD; obtain ⟨AO, nO, rfl, hnO, fO⟩ := ow_sl hO; have hg := GS.mk_ fD fO hnD hnO; have B0 := Lib.hid (bl_alloc (bl_then B0.out hb) (.cells #[.slice AD (chD p l 0).length nD, .slice AO (chO p l 0).length nO] 24)); (try have G1 := Lib.hid (G1.out.then (bl_alloc hb (.cells #[.slice AD (chD p l 0).length nD, .slice AO (chO p l 0).length nO] 24)))); (try have G3 := Lib.hid (G3.out.then (bl_alloc hb (.cells #[.slice AD (chD p l 0).length nD, .slice AO (chO p l 0).length nO] 24)))); (try have G4 := Lib.hid (G4.out.then (bl_alloc hb (.cells #[.slice AD (chD p l 0).length nD, .slice AO (chO p l 0).length nO] 24)))); have G2 := Lib.hid hg; clear hg fD fO hnD hnO hD hO hb; (try (have q := G1.out.k; have cc0 := kb_cell q (i := 0) rfl; have cc1 := kb_cell q (i := 1) rfl; clear q)); (try (have q := G2.out.k; have cc0 := kb_cell q (i := 0) rfl; have cc1 := kb_cell q (i := 1) rfl; clear q)); (try (have q := G3.out.k; have cc0 := kb_cell q (i := 0) rfl; have cc1 := kb_cell q (i := 1) rfl; clear q)); (try (have q := G4.out.k; have cc0 := kb_cell q (i := 0) rfl; have cc1 := kb_cell q (i := 1) rfl; clear q)))
        | (go_at_call 15; (with_reducible refine ((G2.out.exact GZ.out (HT.out.below B0.out))).mono ?_); rintro e w2 ⟨rfl, hb⟩; try rw [E2.out]; have B0 := Lib.hid (bl_then B0.out hb); (try have G1 := Lib.hid (G1.out.then hb)); (try have G2 := Lib.hid (G2.out.then hb)); (try have G3 := Lib.hid (G3.out.then hb)); (try have G4 := Lib.hid (G4.out.then hb)); (try (have q := G1.out.k; have cc0 := kb_cell q (i := 0) rfl; have cc1 := kb_cell q (i := 1) rfl; clear q)); (try (have q := G2.out.k; have cc0 := kb_cell q (i := 0) rfl; have cc1 := kb_cell q (i := 1) rfl; clear q)); (try (have q := G3.out.k; have cc0 := kb_cell q (i := 0) rfl; have cc1 := kb_cell q (i := 1) rfl; clear q)); (try (have q := G4.out.k; have cc0 := kb_cell q (i := 0) rfl; have cc1 := kb_cell q (i := 1) rfl; clear q)); clear hb)
        | (go_at_call 13; (with_reducible refine (G1.out.right GD.out).mono ?_); rintro e w2 ⟨rfl, hb⟩; have B0 := Lib.hid (bl_then B0.out hb); (try have G1 := Lib.hid (G1.out.then hb)); (try have G2 := Lib.hid (G2.out.then hb)); (try have G3 := Lib.hid (G3.out.then hb)); (try have G4 := Lib.hid (G4.out.then hb)); (try (have q := G1.out.k; have cc0 := kb_cell q (i := 0) rfl; have cc1 := kb_cell q (i := 1) rfl; clear q)); (try (have q := G2.out.k; have cc0 := kb_cell q (i := 0) rfl; have cc1 := kb_cell q (i := 1) rfl; clear q)); (try (have q := G3.out.k; have cc0 := kb_cell q (i := 0) rfl; have cc1 := kb_cell q (i := 1) rfl; clear q)); (try (have q := G4.out.k; have cc0 := kb_cell q (i := 0) rfl; have cc1 := kb_cell q (i := 1) rfl; clear q)); clear hb))
      go_ret
      exact ⟨rfl, by first | exact B0.out | exact bl_drewN B0.out _⟩
    · obtain ⟨P, m1, m2, m3, m4, m5, m6, m7⟩ := least_good gd hg
      have r2 := (ps_r2 gd.s).2
      have gl := gd.push (atW_ps (q := P) m4 (by omega))
      have gh := gd.push (atW_ps (q := P + 1) (by omega) (by omega))
      have GL := Lib.hid gl
      have GH := Lib.hid gh
      have CL := Lib.hid (cc _ gl.s)
      have CH := Lib.hid (cc _ gh.s)
      have E3 := Lib.hid ((gv_n gl).1 m6)
      obtain ⟨N, hN⟩ : ∃ N, exactN (chD p l s) (chO p l s) 0 = N := ⟨_, rfl⟩
      obtain ⟨M, hM⟩ : ∃ M, exactN (chD p l (atW (P + 1))) (chO p l (atW (P + 1))) 0 = M := ⟨_, rfl⟩
      have n1 := (gv_n gd).2 hg
      have n2 := (gv_n gh).2 m7
      rw [hN] at n1
      rw [hM] at n2
      have E1 := Lib.hid hN
      have E4 := Lib.hid hM
      have k3 : (N == 0) = false := by simp; omega
      have k4 : decide (0 < M) = true := decide_eq_true n2
      have q1 := atW_p (p := P) (by omega) (by omega)
      have q2 := atW_p (p := P + 1) (by omega) (by omega)
      have p1 := place_c (atW P) gl.s.w
      have p2 := place_c (atW (P + 1)) gh.s.w
      rw [q1.2.2, q1.2.1] at p1
      rw [q2.2.2, q2.2.1] at p2
      have P1 := Lib.hid p1
      have P2 := Lib.hid p2
      have ep : wrap64 (P + 1) = P + 1 := by unfold wrap64; omega
      have t1 : (FloatKind.f64.format.order (atW P) 0 == some .gt || FloatKind.f64.format.order (atW P) 0 == some .eq) = true := by
        rw [t_ge gl.s.w zeroW, q1.2.1, q1.1, isn0, plc0]; simp; omega
      have t2 : (FloatKind.f64.format.order (atW (P + 1)) s == some .lt || FloatKind.f64.format.order (atW (P + 1)) s == some .eq) = true := by
        rw [t_le gh.s.w hs, q2.2.1, q2.1, show isn s = false by rw [isn_eq]; have := gd.s.hi; simp; omega]; simp; omega
      rw [m1, m2, m3] at lc
      have LE := Lib.hid lc
      clear lc hp hl wp wl hs hT aw h8 he gd gz cc hg h1 m1 m2 m3 m4 m5 m6 m7 r2 gl gh hN hM n1 n2 q1 q2 p1 p2
      go_enter Tryd.func10, Tryd.ntmps10
      go_wp2_with (first
        | (go_at_call 11; (with_reducible refine (AW.out _ B0.out).mono ?_); rintro e w1 ⟨rfl, hb⟩; have B0 := Lib.hid (bl_then B0.out hb); (try have G1 := Lib.hid (G1.out.then hb)); (try have G2 := Lib.hid (G2.out.then hb)); (try have G3 := Lib.hid (G3.out.then hb)); (try have G4 := Lib.hid (G4.out.then hb)); (try (have q := G1.out.k; have cc0 := kb_cell q (i := 0) rfl; have cc1 := kb_cell q (i := 1) rfl; clear q)); (try (have q := G2.out.k; have cc0 := kb_cell q (i := 0) rfl; have cc1 := kb_cell q (i := 1) rfl; clear q)); (try (have q := G3.out.k; have cc0 := kb_cell q (i := 0) rfl; have cc1 := kb_cell q (i := 1) rfl; clear q)); (try (have q := G4.out.k; have cc0 := kb_cell q (i := 0) rfl; have cc1 := kb_cell q (i := 1) rfl; clear q)); clear hb)
        | (go_at_call 21; (with_reducible refine (CS.out _ B0.out).mono ?_); rintro e w1 ⟨vD, vO, rfl, hD, hO, hb⟩; obtain ⟨AD, nD, rfl, hnD, fD⟩ := ow_sl hD; obtain ⟨AO, nO, rfl, hnO, fO⟩ := ow_sl hO; have hg := GS.mk_ fD fO hnD hnO; have B0 := Lib.hid (bl_alloc (bl_then B0.out hb) (.cells #[.slice AD (chD p l s).length nD, .slice AO (chO p l s).length nO] 24)); (try have G2 := Lib.hid (G2.out.then (bl_alloc hb (.cells #[.slice AD (chD p l s).length nD, .slice AO (chO p l s).length nO] 24)))); (try have G3 := Lib.hid (G3.out.then (bl_alloc hb (.cells #[.slice AD (chD p l s).length nD, .slice AO (chO p l s).length nO] 24)))); (try have G4 := Lib.hid (G4.out.then (bl_alloc hb (.cells #[.slice AD (chD p l s).length nD, .slice AO (chO p l s).length nO] 24)))); have G1 := Lib.hid hg; clear hg fD fO hnD hnO hD hO hb; (try (have q := G1.out.k; have cc0 := kb_cell q (i := 0) rfl; have cc1 := kb_cell q (i := 1) rfl; clear q)); (try (have q := G2.out.k; have cc0 := kb_cell q (i := 0) rfl; have cc1 := kb_cell q (i := 1) rfl; clear q)); (try (have q := G3.out.k; have cc0 := kb_cell q (i := 0) rfl; have cc1 := kb_cell q (i := 1) rfl; clear q)); (try (have q := G4.out.k; have cc0 := kb_cell q (i := 0) rfl; have cc1 := kb_cell q (i := 1) rfl; clear q)))
        | (go_at_call 26; (with_reducible refine (LE.out _ B0.out).mono ?_); rintro e w1 ⟨rfl, hb⟩; have B0 := Lib.hid (bl_then B0.out hb); (try have G1 := Lib.hid (G1.out.then hb)); (try have G2 := Lib.hid (G2.out.then hb)); (try have G3 := Lib.hid (G3.out.then hb)); (try have G4 := Lib.hid (G4.out.then hb)); (try (have q := G1.out.k; have cc0 := kb_cell q (i := 0) rfl; have cc1 := kb_cell q (i := 1) rfl; clear q)); (try (have q := G2.out.k; have cc0 := kb_cell q (i := 0) rfl; have cc1 := kb_cell q (i := 1) rfl; clear q)); (try (have q := G3.out.k; have cc0 := kb_cell q (i := 0) rfl; have cc1 := kb_cell q (i := 1) rfl; clear q)); (try (have q := G4.out.k; have cc0 := kb_cell q (i := 0) rfl; have cc1 := kb_cell q (i := 1) rfl; clear q)); clear hb)
        | (go_at_call 15; (with_reducible refine ((G1.out.exact GD.out (HT.out.below B0.out))).mono ?_); rintro e w2 ⟨rfl, hb⟩; try rw [E1.out]; have B0 := Lib.hid (bl_then B0.out hb); (try have G1 := Lib.hid (G1.out.then hb)); (try have G2 := Lib.hid (G2.out.then hb)); (try have G3 := Lib.hid (G3.out.then hb)); (try have G4 := Lib.hid (G4.out.then hb)); (try (have q := G1.out.k; have cc0 := kb_cell q (i := 0) rfl; have cc1 := kb_cell q (i := 1) rfl; clear q)); (try (have q := G2.out.k; have cc0 := kb_cell q (i := 0) rfl; have cc1 := kb_cell q (i := 1) rfl; clear q)); (try (have q := G3.out.k; have cc0 := kb_cell q (i := 0) rfl; have cc1 := kb_cell q (i := 1) rfl; clear q)); (try (have q := G4.out.k; have cc0 := kb_cell q (i := 0) rfl; have cc1 := kb_cell q (i := 1) rfl; clear q)); clear hb)
        | (go_at_call 21; (with_reducible refine (CZ.out _ B0.out).mono ?_); rintro e w1 ⟨vD, vO, rfl, hD, hO, hb⟩; obtain ⟨AD, nD, rfl, hnD, fD⟩ := ow_sl hD; obtain ⟨AO, nO, rfl, hnO, fO⟩ := ow_sl hO; have hg := GS.mk_ fD fO hnD hnO; have B0 := Lib.hid (bl_alloc (bl_then B0.out hb) (.cells #[.slice AD (chD p l 0).length nD, .slice AO (chO p l 0).length nO] 24)); (try have G1 := Lib.hid (G1.out.then (bl_alloc hb (.cells #[.slice AD (chD p l 0).length nD, .slice AO (chO p l 0).length nO] 24)))); (try have G3 := Lib.hid (G3.out.then (bl_alloc hb (.cells #[.slice AD (chD p l 0).length nD, .slice AO (chO p l 0).length nO] 24)))); (try have G4 := Lib.hid (G4.out.then (bl_alloc hb (.cells #[.slice AD (chD p l 0).length nD, .slice AO (chO p l 0).length nO] 24)))); have G2 := Lib.hid hg; clear hg fD fO hnD hnO hD hO hb; (try (have q := G1.out.k; have cc0 := kb_cell q (i := 0) rfl; have cc1 := kb_cell q (i := 1) rfl; clear q)); (try (have q := G2.out.k; have cc0 := kb_cell q (i := 0) rfl; have cc1 := kb_cell q (i := 1) rfl; clear q)); (try (have q := G3.out.k; have cc0 := kb_cell q (i := 0) rfl; have cc1 := kb_cell q (i := 1) rfl; clear q)); (try (have q := G4.out.k; have cc0 := kb_cell q (i := 0) rfl; have cc1 := kb_cell q (i := 1) rfl; clear q)))
        | (go_at_call 15; (with_reducible refine ((G2.out.exact GZ.out (HT.out.below B0.out))).mono ?_); rintro e w2 ⟨rfl, hb⟩; try rw [E2.out]; have B0 := Lib.hid (bl_then B0.out hb); (try have G1 := Lib.hid (G1.out.then hb)); (try have G2 := Lib.hid (G2.out.then hb)); (try have G3 := Lib.hid (G3.out.then hb)); (try have G4 := Lib.hid (G4.out.then hb)); (try (have q := G1.out.k; have cc0 := kb_cell q (i := 0) rfl; have cc1 := kb_cell q (i := 1) rfl; clear q)); (try (have q := G2.out.k; have cc0 := kb_cell q (i := 0) rfl; have cc1 := kb_cell q (i := 1) rfl; clear q)); (try (have q := G3.out.k; have cc0 := kb_cell q (i := 0) rfl; have cc1 := kb_cell q (i := 1) rfl; clear q)); (try (have q := G4.out.k; have cc0 := kb_cell q (i := 0) rfl; have cc1 := kb_cell q (i := 1) rfl; clear q)); clear hb)
        | (go_at_call 13; (with_reducible refine (G1.out.right GD.out).mono ?_); rintro e w2 ⟨rfl, hb⟩; have B0 := Lib.hid (bl_then B0.out hb); (try have G1 := Lib.hid (G1.out.then hb)); (try have G2 := Lib.hid (G2.out.then hb)); (try have G3 := Lib.hid (G3.out.then hb)); (try have G4 := Lib.hid (G4.out.then hb)); (try (have q := G1.out.k; have cc0 := kb_cell q (i := 0) rfl; have cc1 := kb_cell q (i := 1) rfl; clear q)); (try (have q := G2.out.k; have cc0 := kb_cell q (i := 0) rfl; have cc1 := kb_cell q (i := 1) rfl; clear q)); (try (have q := G3.out.k; have cc0 := kb_cell q (i := 0) rfl; have cc1 := kb_cell q (i := 1) rfl; clear q)); (try (have q := G4.out.k; have cc0 := kb_cell q (i := 0) rfl; have cc1 := kb_cell q (i := 1) rfl; clear q)); clear hb)
        | (go_at_call 21; (with_reducible refine (CL.out _ B0.out).mono ?_); rintro e w1 ⟨vD, vO, rfl, hD, hO, hb⟩; obtain ⟨AD, nD, rfl, hnD, fD⟩ := ow_sl hD; obtain ⟨AO, nO, rfl, hnO, fO⟩ := ow_sl hO; have hg := GS.mk_ fD fO hnD hnO; have B0 := Lib.hid (bl_alloc (bl_then B0.out hb) (.cells #[.slice AD (chD p l (atW P)).length nD, .slice AO (chO p l (atW P)).length nO] 24)); (try have G1 := Lib.hid (G1.out.then (bl_alloc hb (.cells #[.slice AD (chD p l (atW P)).length nD, .slice AO (chO p l (atW P)).length nO] 24)))); (try have G2 := Lib.hid (G2.out.then (bl_alloc hb (.cells #[.slice AD (chD p l (atW P)).length nD, .slice AO (chO p l (atW P)).length nO] 24)))); (try have G4 := Lib.hid (G4.out.then (bl_alloc hb (.cells #[.slice AD (chD p l (atW P)).length nD, .slice AO (chO p l (atW P)).length nO] 24)))); have G3 := Lib.hid hg; clear hg fD fO hnD hnO hD hO hb; (try (have q := G1.out.k; have cc0 := kb_cell q (i := 0) rfl; have cc1 := kb_cell q (i := 1) rfl; clear q)); (try (have q := G2.out.k; have cc0 := kb_cell q (i := 0) rfl; have cc1 := kb_cell q (i := 1) rfl; clear q)); (try (have q := G3.out.k; have cc0 := kb_cell q (i := 0) rfl; have cc1 := kb_cell q (i := 1) rfl; clear q)); (try (have q := G4.out.k; have cc0 := kb_cell q (i := 0) rfl; have cc1 := kb_cell q (i := 1) rfl; clear q)))
        | (go_at_call 21; (with_reducible refine (CH.out _ B0.out).mono ?_); rintro e w1 ⟨vD, vO, rfl, hD, hO, hb⟩; obtain ⟨AD, nD, rfl, hnD, fD⟩ := ow_sl hD; obtain ⟨AO, nO, rfl, hnO, fO⟩ := ow_sl hO; have hg := GS.mk_ fD fO hnD hnO; have B0 := Lib.hid (bl_alloc (bl_then B0.out hb) (.cells #[.slice AD (chD p l (atW (P + 1))).length nD, .slice AO (chO p l (atW (P + 1))).length nO] 24)); (try have G1 := Lib.hid (G1.out.then (bl_alloc hb (.cells #[.slice AD (chD p l (atW (P + 1))).length nD, .slice AO (chO p l (atW (P + 1))).length nO] 24)))); (try have G2 := Lib.hid (G2.out.then (bl_alloc hb (.cells #[.slice AD (chD p l (atW (P + 1))).length nD, .slice AO (chO p l (atW (P + 1))).length nO] 24)))); (try have G3 := Lib.hid (G3.out.then (bl_alloc hb (.cells #[.slice AD (chD p l (atW (P + 1))).length nD, .slice AO (chO p l (atW (P + 1))).length nO] 24)))); have G4 := Lib.hid hg; clear hg fD fO hnD hnO hD hO hb; (try (have q := G1.out.k; have cc0 := kb_cell q (i := 0) rfl; have cc1 := kb_cell q (i := 1) rfl; clear q)); (try (have q := G2.out.k; have cc0 := kb_cell q (i := 0) rfl; have cc1 := kb_cell q (i := 1) rfl; clear q)); (try (have q := G3.out.k; have cc0 := kb_cell q (i := 0) rfl; have cc1 := kb_cell q (i := 1) rfl; clear q)); (try (have q := G4.out.k; have cc0 := kb_cell q (i := 0) rfl; have cc1 := kb_cell q (i := 1) rfl; clear q)))
        | (go_at_call 15; (with_reducible refine ((G3.out.exact GL.out (HT.out.below B0.out))).mono ?_); rintro e w2 ⟨rfl, hb⟩; try rw [E3.out]; have B0 := Lib.hid (bl_then B0.out hb); (try have G1 := Lib.hid (G1.out.then hb)); (try have G2 := Lib.hid (G2.out.then hb)); (try have G3 := Lib.hid (G3.out.then hb)); (try have G4 := Lib.hid (G4.out.then hb)); (try (have q := G1.out.k; have cc0 := kb_cell q (i := 0) rfl; have cc1 := kb_cell q (i := 1) rfl; clear q)); (try (have q := G2.out.k; have cc0 := kb_cell q (i := 0) rfl; have cc1 := kb_cell q (i := 1) rfl; clear q)); (try (have q := G3.out.k; have cc0 := kb_cell q (i := 0) rfl; have cc1 := kb_cell q (i := 1) rfl; clear q)); (try (have q := G4.out.k; have cc0 := kb_cell q (i := 0) rfl; have cc1 := kb_cell q (i := 1) rfl; clear q)); clear hb)
        | (go_at_call 15; (with_reducible refine ((G4.out.exact GH.out (HT.out.below B0.out))).mono ?_); rintro e w2 ⟨rfl, hb⟩; try rw [E4.out]; have B0 := Lib.hid (bl_then B0.out hb); (try have G1 := Lib.hid (G1.out.then hb)); (try have G2 := Lib.hid (G2.out.then hb)); (try have G3 := Lib.hid (G3.out.then hb)); (try have G4 := Lib.hid (G4.out.then hb)); (try (have q := G1.out.k; have cc0 := kb_cell q (i := 0) rfl; have cc1 := kb_cell q (i := 1) rfl; clear q)); (try (have q := G2.out.k; have cc0 := kb_cell q (i := 0) rfl; have cc1 := kb_cell q (i := 1) rfl; clear q)); (try (have q := G3.out.k; have cc0 := kb_cell q (i := 0) rfl; have cc1 := kb_cell q (i := 1) rfl; clear q)); (try (have q := G4.out.k; have cc0 := kb_cell q (i := 0) rfl; have cc1 := kb_cell q (i := 1) rfl; clear q)); clear hb)
        | (go_at_call 32; (with_reducible refine (P1.out _).mono ?_); rintro e w' ⟨rfl, hw⟩; obtain rfl := hw.symm; clear hw)
        | (go_at_call 32; (with_reducible refine (P2.out _).mono ?_); rintro e w' ⟨rfl, hw⟩; obtain rfl := hw.symm; clear hw))
      go_ret
      exact ⟨rfl, by first | exact B0.out | exact bl_drewN B0.out _⟩
theorem sturmGives_c {W : World} (A : Option Addr) (cA : Nat) (p : List Nat) (B : Option Addr) (cB : Nat) (l : List Nat) (s : Nat) (_ : p.length ≤ cA) (hp : Fl W A p) (wp : ∀ x ∈ p, W64 x) (_ : l.length ≤ cB) (hl : Fl W B l) (wl : ∀ x ∈ l, W64 x) (hs : W64 s) (hT : Tab W) :
    Calls Tryd.prog 10 #[.slice A p.length cA, .slice B l.length cB, .float .f64 s] W fun e w' => e = .returned (.bool true) ∧ Below W.heap.size W w' := by
  by_cases h8 : 8 < p.length
  · exact sturmGives_no A B cA cB p l s hp hl wp wl hs hT (Or.inl h8)
  · by_cases he : chordE p l s = 0
    · exact sturmGives_yes A B cA cB p l s hp hl wp wl hs hT (by omega) he
    · exact sturmGives_no A B cA cB p l s hp hl wp wl hs hT (Or.inr ⟨by omega, he⟩)
end Go.Proofs.YtfjiojdnbdfenaaDoor


/- The frame of the rows of this seat: the one listed variable (math/bits' table) as cells; a start that fits. -/
namespace Go.Proofs.YtfjiojdnbdfenaaDoor
open Go Go.ChangeShapes Go.WideShapes Go.RowKit GFl
set_option maxRecDepth 100000

theorem Tryd.own : ownKnob Tryd.prog.godebug = none := by kernel_rfl
theorem w64_of {x : Nat} (h : (Lit.float .f64 x).wf = true) : W64 x := W64.mk (by simpa [Lit.wf] using h)
theorem i64_of {x : Int} (h : (Lit.int .i64 x).wf = true) : -9223372036854775808 ≤ x ∧ x ≤ 9223372036854775807 := by simpa [Lit.wf, IntKind.min, IntKind.max, IntKind.signed, IntKind.bits] using h
theorem no_standIn {ps : Array TypeId} {fn : Func} (h : fn.params = ps) (hall : (ps.toList.all fun t => !Tryd.prog.wantsStandIn t) = true) : ∀ (j : Nat) (t : TypeId), fn.params[j]? = some t → Tryd.prog.wantsStandIn t = false := by
  intro j t ht
  rw [h] at ht
  have hm : t ∈ ps.toList := by rw [Array.mem_toList_iff]; exact Array.mem_of_getElem? ht
  have := List.all_eq_true.1 hall t hm
  simpa using this
def tabZs : List Int := Lib.deBruijn64tab.map fun (n : Nat) => (n : Int)
def laidL : List (String × DataW Unit) := [("math/bits.deBruijn64tab", Rows.laid_math_bits_deBruijn64tab)]
theorem laidL_eq : laidL = ("math/bits.deBruijn64tab", Lib.tabData .u8 tabZs) :: [] := by kernel_rfl
theorem tab_named : Tryd.prog.globalNamed "math/bits.deBruijn64tab" = some 1 := by kernel_rfl
theorem tab_type : (Tryd.prog.globals[1]?).map (·.type) = some 114 := by kernel_rfl
theorem tab_of_laid {W : World} (h : laidMet Tryd.prog laidL W) : Tab W := by
  rw [laidL_eq] at h
  have ht := Lib.tabIs_of_head tab_named tab_type Tryd.underlying114 Tryd.underlying5 (by kernel_rfl) (by kernel_rfl) h
  intro j hj
  have hc := ht.cell tab_named j (by simpa [tabZs] using hj)
  rw [hc]
  congr 2
  simp [tabZs, List.getD, hj]

def tabCells : Array Value := (tabZs.map fun z => Value.int .u8 z).toArray
noncomputable def laidWorld (os : Os) : World :=
  { World.holding Tryd.prog os ⟨#[], #[], []⟩ with heap := (World.holding Tryd.prog os ⟨#[], #[], []⟩).heap.modify 1 fun
      | .cells _ t frozen => .cells tabCells t frozen
      | o => o }
theorem laidWorld_row (os : Os) (args : Array Value) : ((laidWorld os).forCall (fun _ _ => 0) ⟨#[], args, []⟩).memory.heap[1]? = some (.cells tabCells 114 (0, 0)) := by kernel_rfl
theorem tab_places : ((MemPlace.row ⟨1, 0, none⟩ tabCells.size ++ ([] : List MemPlace) ++ []).Nodup) := by decide
theorem laidWorld_met (os : Os) (args : Array Value) : laidMet Tryd.prog laidL ((laidWorld os).forCall (fun _ _ => 0) ⟨#[], args, []⟩).memory := by
  refine ⟨_, ⟨1, 114, tabCells, 8, [], [], by kernel_rfl, by kernel_rfl, by kernel_rfl, by kernel_rfl, rfl, rfl⟩, tab_places, fun b off h => ?_⟩
  have h' : MemPlace.cell b off ∈ (MemPlace.row ⟨1, 0, none⟩ tabCells.size : List MemPlace) := by simpa using h
  have hall : (MemPlace.row ⟨1, 0, none⟩ tabCells.size : List MemPlace).all (fun p => match p with | .cell b _ => b == 1 | _ => false) = true := by decide
  have hb := List.all_eq_true.1 hall _ h'
  obtain rfl : b = 1 := by simpa using hb
  refine ⟨⟨_, _, laidWorld_row os args⟩, fun u v hc => ?_⟩
  exfalso
  simp only [World.cell?, laidWorld_row os args] at hc
  have hc' : tabCells[off]? = some (.iface u v) := by simpa using hc
  unfold tabCells at hc'
  simp at hc'
end Go.Proofs.YtfjiojdnbdfenaaDoor


/- Lists of floats, chains and lists of small numbers as arguments of a row: opened. -/
namespace Go.Proofs.YtfjiojdnbdfenaaDoor
open Go Go.ChangeShapes Go.WideShapes Go.RowKit Go.Deep GFl
open Go.Proofs.YtfjiojdnbdfenaaDoorW.PrintWords (Kd)
set_option maxRecDepth 100000

theorem jk_laidOut : laidOutB Tryd.prog = true := by kernel_rfl
theorem rs_rec1 : Tryd.prog.readableRec 22 = true := by kernel_rfl
theorem rs_row1 : (22 : TypeId) < Tryd.prog.types.size := of_decide_eq_true (by kernel_rfl)
theorem rs_rec2 : Tryd.prog.readableRec 24 = true := by kernel_rfl
theorem rs_row2 : (24 : TypeId) < Tryd.prog.types.size := of_decide_eq_true (by kernel_rfl)
theorem rs_cf : Tryd.prog.cellsOf 25 = 1 := by kernel_rfl
theorem rs_cc : Tryd.prog.cellsOf 24 = 2 := by kernel_rfl
theorem rs_cs : Tryd.prog.cellsOf 22 = 1 := by kernel_rfl
theorem list_of {α : Type} {p : Nat → α → Prop} : ∀ n, (∀ i, i < n → ∃ j, p i j) → ∃ l : List α, l.length = n ∧ ∀ i j, l[i]? = some j → p i j
  | 0, _ => ⟨[], rfl, fun i j h => by simp at h⟩
  | n + 1, h => by
    obtain ⟨l, hl, hp⟩ := list_of n (fun i hi => h i (by omega))
    obtain ⟨j, hj⟩ := h n (by omega)
    refine ⟨l ++ [j], by simp [hl], fun i x hx => ?_⟩
    rcases Nat.lt_or_ge i l.length with hi | hi
    · rw [List.getElem?_append_left hi] at hx; exact hp i x hx
    · rw [List.getElem?_append_right hi] at hx
      have e : i - l.length = 0 := by
        have := (List.getElem?_eq_some_iff.1 hx).1
        simp at this; omega
      rw [e] at hx
      have : x = j := by simpa using hx.symm
      subst this
      have : i = n := by omega
      subst this; exact hj
section
variable {H : Type} {enc : TypeId × Value → H} {P : Program} {w : World} {base : Nat} {spare : Nat → Bool} {held : Bool}
theorem trod_flt {k : FloatKind} {t : TypeId} {fuel : Nat} {cs : List Value} {x : DataW H × List MemPlace} (ht : P.underlying t = some (.float k)) (h : DataW.trod enc P w base spare held fuel t cs = some x) : ∃ n, cs = [.float k n] ∧ (Lit.float k n).wf = true := by
  cases fuel with
  | zero => simp [DataW.trod] at h
  | succ n =>
    unfold DataW.trod at h
    rw [ht] at h
    split at h <;> simp_all
end
section
variable {H : Type} {enc : TypeId × Value → H} {w : World} {base : Nat} {spare : Nat → Bool} {held : Bool}
theorem open_fls {fuel : Nat} {c : Value} {x : DataW H × List MemPlace} (h : DataW.trod enc Tryd.prog w base spare held fuel 22 [c] = some x) :
    ∃ (A : Option Addr) (cap : Nat) (l : List Nat), c = .slice A l.length cap ∧ l.length ≤ cap ∧ Fl w A l ∧ (∀ y ∈ l, W64 y) ∧ (A = none → cap = 0 ∧ l = []) := by
  rcases open_slice1 Tryd.underlying22 rs_cf h with ⟨hc, _⟩ | ⟨ad, len, cap, m, n, V, D, Pl, hc, hb, hl, hm, hmm, _, hi⟩
  · have hc : c = .slice none 0 0 := by simpa using hc
    subst hc
    exact ⟨none, 0, [], rfl, Nat.le_refl _, Fl.mk (by simp) (fun h => by simp at h), fun y hy => (by cases hy), fun _ => ⟨rfl, rfl⟩⟩
  · have hc : c = .slice (some ad) len cap := by simpa using hc
    subst hc
    have hlm : len ≤ m := by rw [hmm]; split <;> omega
    obtain ⟨l, hll, hp⟩ := list_of (p := fun i y => w.cell? (ad.add i) = some (.float .f64 y) ∧ W64 y) len (fun i hil => by
      obtain ⟨hc, ht⟩ := hi i (by omega)
      obtain ⟨y, he, hw⟩ := trod_flt Tryd.underlying25 ht
      have he : V i = .float .f64 y := by simpa using he
      exact ⟨y, by rw [hc, he], w64_of hw⟩)
    subst hll
    have hmx : cap ≤ 9223372036854775807 := hm
    refine ⟨some ad, cap, l, rfl, hl, Fl.mk (by omega) (fun _ => ⟨ad, rfl, fun i hi => (hp i _ (List.getElem?_eq_getElem hi)).1⟩), fun y hy => ?_, fun h => by cases h⟩
    obtain ⟨i, hi1, rfl⟩ := List.getElem_of_mem hy
    exact (hp i _ (List.getElem?_eq_getElem hi1)).2
theorem open_reals {r : Reach} {b0 : Nat} {v : Value} {d : DataW H} {p : List MemPlace} (hv : Value.okWide Tryd.prog w r b0 22 v) (h : DataW.Trod enc Tryd.prog w base spare held 22 v d p) :
    ∃ (A : Option Addr) (cap : Nat) (l : List Nat), v = .slice A l.length cap ∧ l.length ≤ cap ∧ Fl w A l ∧ (∀ y ∈ l, W64 y) ∧ (A = none → cap = 0 ∧ l = []) := by
  obtain ⟨a, len, cap, rfl⟩ := okWide_slice Tryd.underlying22 hv
  obtain ⟨fuel, hf⟩ := h
  exact open_fls hf
theorem open_chain {r : Reach} {b0 : Nat} {v : Value} {d : DataW H} {p : List MemPlace} (hv : Value.okWide Tryd.prog w r b0 24 v) (h : DataW.Trod enc Tryd.prog w base spare held 24 v d p) :
    ∃ (A B : Option Addr) (cA cB : Nat) (l m : List Nat), v = .agg #[.slice A l.length cA, .slice B m.length cB] ∧ l.length ≤ cA ∧ m.length ≤ cB ∧ Fl w A l ∧ Fl w B m ∧ (∀ y ∈ l, W64 y) ∧ (∀ y ∈ m, W64 y) ∧ (A = none → cA = 0 ∧ l = []) ∧ (B = none → cB = 0 ∧ m = []) := by
  obtain ⟨cs, rfl, _⟩ := okWide_struct Tryd.underlying24 hv
  obtain ⟨fuel, h⟩ := h
  obtain ⟨xs, n, _, hx, hlen, hxl, hf⟩ := DataW.trod_struct Tryd.underlying24 h
  rw [rs_cc] at hlen
  obtain ⟨cs⟩ := cs
  change cs.length = 2 at hlen
  match cs, hlen with
  | [c0, c1], _ =>
    have h0 := hf 0 _ rfl
    have h1 := hf 1 _ rfl
    have hs : xs.length = 2 := hxl
    have g0 : DataW.trod enc Tryd.prog w base spare held n 22 [c0] = xs[0]? := h0
    have g1 : DataW.trod enc Tryd.prog w base spare held n 22 [c1] = xs[1]? := h1
    rw [List.getElem?_eq_getElem (by omega)] at g0 g1
    obtain ⟨A, cA, l, rfl, j1, j2, j3, j4⟩ := open_fls g0
    obtain ⟨B, cB, m, rfl, k1, k2, k3, k4⟩ := open_fls g1
    exact ⟨A, B, cA, cB, l, m, rfl, j1, k1, j2, k2, j3, k3, j4, k4⟩
end
end Go.Proofs.YtfjiojdnbdfenaaDoor


/- girder/girderlaw17.SturmGives answers true for every input, and leaves each argument as it was: the table of math/bits is tied to the program's text.
 Conditions: none of its own. -/
namespace Go.Proofs.YtfjiojdnbdfenaaDoor
open Go Go.ChangeShapes Go.WideShapes Go.RowKit GFl

set_option maxRecDepth 100000 in
theorem sturmGives_lifted (os : Os) (started : os.Started) (H : Type) (enc : TypeId × Value → H) :
    ReturnsInHanded {} Tryd.checked os 10 .any (fun w args => (Rows.sturmGivesSpec.pre enc Tryd.prog Tryd.f10 [] false w args ∧ laidMet Tryd.prog laidL w) ∧ sizedMet enc Tryd.prog Tryd.f10 (OpenSpec.ofChange Rows.sturmGivesSpec) false w args) (Rows.sturmGivesSpec.post enc Tryd.prog Tryd.f10 false true false false) := by
  refine returnsInHanded_of_change_and (C := Tryd.checked) (X := fun w _ => laidMet Tryd.prog laidL w) (fun _ _ _ hh h => h.of_heap hh) Tryd.own started (by kernel_rfl) Tryd.func10
    (ChangeSpec.witness_at (enc := enc) (C := Tryd.checked) (os := os) (X := fun w _ => laidMet Tryd.prog laidL w) false (laidWorld os) #[.slice none 0 0, .slice none 0 0, .float .f64 0] 8 rfl (by kernel_rfl) (by kernel_rfl) (by kernel_rfl) (by kernel_rfl) (by kernel_rfl) (laidWorld_met os _)) ?_
  intro W base args ds gs before hval0 hW _ hsz hL _
  have hval : ∀ (j : Nat) t v, Tryd.f10.params[j]? = some t → args[j]? = some v → Value.okWide Tryd.prog W .any base t v := hval0
  have hW' := hW
  obtain ⟨p, q, hA0, hV0, rfl, hfz, hnd⟩ := hW
  have hA : DataW.TrodAll enc Tryd.prog W 0 (fun _ => true) true Tryd.f10.params.toList args.toList ds p := hA0
  have hV : DataW.TrodVars enc Tryd.prog W (fun _ => true) [] gs q := hV0
  rw [Tryd.params10] at hA hval
  obtain ⟨v0, v1, v2, d0, d1, d2, p0, p1, p2, rfl, rfl, rfl, h0, h1, h2⟩ := trodAll_three hA
  have k0 := h0
  have lt0 : ∀ x ∈ p0, x.block < W.heap.size := by obtain ⟨m, hm⟩ := h0; exact DataW.trod_lt m _ _ _ hm
  obtain ⟨A0, c0, l0, rfl, hl0, hC0, wl0, hN0⟩ := open_reals (hval 0 22 v0 rfl rfl) h0
  have k1 := h1
  have lt1 : ∀ x ∈ p1, x.block < W.heap.size := by obtain ⟨m, hm⟩ := h1; exact DataW.trod_lt m _ _ _ hm
  obtain ⟨A1, c1, l1, rfl, hl1, hC1, wl1, hN1⟩ := open_reals (hval 1 22 v1 rfl rfl) h1
  obtain ⟨x2, rfl, rfl, rfl, wx2⟩ := open_float Tryd.underlying25 (hval 2 25 v2 rfl rfl) h2
  obtain ⟨rfl, rfl⟩ : gs = [] ∧ q = [] := by
    cases gs with
    | nil => exact ⟨rfl, hV⟩
    | cons g r => exact absurd hV (by intro h; cases h)
  have e1 : Rows.sturmGivesSpec.fn H ([d0, d1, .lit (.float .f64 x2)] ++ []) = { results := [.lit (.bool true)], args := [d0, d1, .lit (.float .f64 x2)] } := by simp [Rows.sturmGivesSpec]
  refine (sturmGives_c (W := W) A0 c0 l0 A1 c1 l1 x2 hl0 hC0 wl0 hl1 hC1 wl1 (w64_of wx2) (tab_of_laid hL)).mono fun e W' ⟨he, hb⟩ => ?_
  subst he
  refine ⟨_, rfl, _, _, _, [], p0 ++ (p1 ++ ([])), [], hW', ?_, ?_, ?_, hb.frame _, fun h => by cases h⟩
  · rw [e1]; exact trodAll_mk1 (shut_bool Tryd.underlying4 true)
  · rw [e1]; exact trodAll_mk3 (Below.trod jk_laidOut rs_rec1 rs_row1 k0 hb lt0) (Below.trod jk_laidOut rs_rec1 rs_row1 k1 hb lt1) (shut_float Tryd.underlying25 wx2)
  · rw [e1]; rfl

theorem sturmGives_holds : Rows.SturmGivesSaid :=
  OpenClaim.holds_of_wide 10 Tryd.f10 rfl rfl rfl rfl rfl rfl rfl ⟨rfl, rfl, rfl, rfl, rfl⟩ rfl rfl rfl rfl rfl (by kernel_rfl) Tryd.func10 (by kernel_rfl)
    (of_decide_eq_true (by kernel_rfl)) (by unfold Func.isWrapper; rw [if_neg (of_decide_eq_false (by kernel_rfl))]; exact ⟨rfl, rfl⟩)
    (fun os started H enc _ => sturmGives_lifted os started H enc)

theorem sturmGives_card_holds : Rows.SturmGivesCardSaid :=
  Claim7.holds_tied_plain_at .later [] [.data] true Rows.sturmGivesCard.stood.harness false
    sturmGives_holds (fun _ h => by cases h) (by kernel_rfl) (fun _ h => by cases h) sturmGives_row_tie rfl ⟨rfl, rfl⟩ (by kernel_rfl) rfl
    (fun f fn hf hfn => by
      obtain rfl : f = 10 := Option.some.inj ((show Tryd.prog.funcNamed "girder/girderlaw17.SturmGives" = some 10 by kernel_rfl).symm.trans hf) |>.symm
      obtain rfl : fn = Tryd.f10 := (Option.some.inj (Tryd.func10.symm.trans hfn)).symm
      exact ⟨by kernel_rfl, no_standIn Tryd.params10 (by kernel_rfl)⟩)
    (by kernel_rfl)
#print axioms sturmGives_card_holds
end Go.Proofs.YtfjiojdnbdfenaaDoor

