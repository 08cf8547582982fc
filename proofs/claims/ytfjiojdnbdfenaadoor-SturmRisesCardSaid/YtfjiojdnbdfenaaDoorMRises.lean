import Derived.Test.YtfjiojdnbdfenaaDoorMe
import Derived.Test.YtfjiojdnbdfenaaDoorMf
import Derived.Test.YtfjiojdnbdfenaaDoorMc
import Derived.ProofKit
import Derived.Lib.LaidTab
import Derived.SevenTiedAt
import Derived.JoinedOf
import Derived.ChangeSame
import Derived.ChangeVars
import Derived.Test.YtfjiojdnbdfenaaDoorMd
import Derived.Deep.Slices
import Derived.Deep.Fields
import Derived.Carry
import Derived.Test.YtfjiojdnbdfenaaDoorCards
import Derived.Test.YtfjiojdnbdfenaaDoorTie
/- What Find answers stands between the counts (plain). -/
namespace Go.Proofs.YtfjiojdnbdfenaaDoor
open Go Nv GFl
set_option maxRecDepth 100000


theorem atW_p {p : Int} (h1 : -6867989431740006400 ≤ p) (h2 : p ≤ 6867989431740006400) : plc (atW p) = p ∧ isn (atW p) = false ∧ placeF (atW p) = p := by
  obtain ⟨e1, e2, e3⟩ := atW_r h1 h2
  have hn : neg (atW p) = decide (p < 0) := by unfold atW; exact wd_neg (by omega)
  have h3 : plc (atW p) = p := by rw [plc_eq, hn, e1]; simp only [decide_eq_true_eq]; split <;> omega
  have h4 : isn (atW p) = false := by rw [isn_eq]; simp; omega
  refine ⟨h3, h4, ?_⟩
  unfold placeF
  rw [h4, h3]; rfl
theorem val_mono {x y : Nat} (h : plc x ≤ plc y) : val x ≤ val y := by
  rw [plc_eq, plc_eq] at h
  rw [val_eq', val_eq']
  have m1 : rg x ≤ rg y → mg B52 (rg x) ≤ mg B52 (rg y) := fun h => mg_mono B52_pos h
  have m2 : rg y ≤ rg x → mg B52 (rg y) ≤ mg B52 (rg x) := fun h => mg_mono B52_pos h
  have z1 : rg x = 0 → mg B52 (rg x) = 0 := fun h => by rw [h]; exact mg_zero _ B52_pos
  have z2 : rg y = 0 → mg B52 (rg y) = 0 := fun h => by rw [h]; exact mg_zero _ B52_pos
  generalize mg B52 (rg x) = a at *
  generalize mg B52 (rg y) = b at *
  cases hx : neg x <;> cases hy : neg y <;> simp only [hx, hy, if_true, if_false, Bool.false_eq_true] at h ⊢ <;> omega
theorem hlv_inv (T : Int → Bool) : ∀ (n : Nat) (a b : Int), a < b → b - a ≤ 2 ^ n → T a = false → T b = true → a ≤ (hlv T n a b).1 ∧ (hlv T n a b).2 = (hlv T n a b).1 + 1 ∧ (hlv T n a b).2 ≤ b ∧ T (hlv T n a b).1 = false ∧ T (hlv T n a b).2 = true := by
  intro n
  induction n with
  | zero =>
    intro a b h1 h2 ha hb
    simp at h2
    obtain rfl : b = a + 1 := by omega
    exact ⟨Int.le_refl _, rfl, Int.le_refl _, ha, hb⟩
  | succ n ih =>
    intro a b h1 h2 ha hb
    rw [Int.pow_succ] at h2
    generalize hp : (2 : Int) ^ n = p at *
    unfold hlv
    by_cases hg : 1 < b - a
    · rw [if_pos hg]
      cases hm : T (a + (b - a) / 2)
      · rw [if_neg (by simp)]
        have := ih (a + (b - a) / 2) b (by omega) (by omega) hm hb
        exact ⟨by omega, this.2.1, this.2.2.1, this.2.2.2⟩
      · rw [if_pos rfl]
        have := ih a (a + (b - a) / 2) (by omega) (by omega) ha hm
        exact ⟨this.1, this.2.1, by omega, this.2.2.2⟩
    · rw [if_neg hg]
      obtain rfl : b = a + 1 := by omega
      exact ⟨Int.le_refl _, rfl, Int.le_refl _, ha, hb⟩
theorem two64 : (2 : Int) ^ 64 = 18446744073709551616 := by decide
theorem val_cf {x : Nat} (h : rg x ≤ 6858982232485265408) : -(p2 1574 : Int) ≤ val x ∧ val x ≤ (p2 1574 : Int) := by
  have h1 := mg_mono (B := B52) B52_pos h
  rw [mg500] at h1
  have := natAbs_val x
  generalize mg B52 (rg x) = m at *
  generalize p2 1574 = q at *
  omega
theorem p2_pos (n : Nat) : 0 < p2 n := by rw [p2_def]; exact Nat.two_pow_pos n
theorem p2_1576 : p2 1576 = 4 * p2 1574 := by rw [show 1576 = 1574 + 1 + 1 from rfl, p2_suc, p2_suc]; omega
theorem mg_top : mg B52 6867989431740006400 = p2 1576 := by
  have : (6867989431740006400 : Nat) = 1525 * B52 + 0 := by decide
  rw [this, mg_B 1525 0 (by decide) (by decide)]
  have e : B52 + 0 = p2 52 := by rw [p2_def]
  rw [e, ← p2_add]
theorem val_top : val (atW 6867989431740006400) = (4 * (p2 1574 : Int)) ∧ val (atW (-6867989431740006400)) = -(4 * (p2 1574 : Int)) := by
  have e1 : atW 6867989431740006400 = wd false 6867989431740006400 := by decide
  have e2 : atW (-6867989431740006400) = wd true 6867989431740006400 := by decide
  rw [e1, e2, val_wd (by decide), val_wd (by decide), mg_top, p2_1576]
  simp
theorem cnt_ends {d o : List Nat} (hr : rightB d o = true) : St.cnt (val (atW (-6867989431740006400))) (d.map val) (o.map val) = 0 ∧ St.cnt (val (atW 6867989431740006400)) (d.map val) (o.map val) = (d.length : Int) := by
  obtain ⟨r1, r2, r3, r4, r5⟩ := rightB_d hr
  have hM : (0 : Int) < (p2 1574 : Int) := by have := p2_pos 1574; omega
  have hd : ∀ a ∈ d.map val, -(p2 1574 : Int) ≤ a ∧ a ≤ (p2 1574 : Int) := fun a ha => by
    obtain ⟨x, hx, rfl⟩ := List.mem_map.1 ha
    exact val_cf (r4 x hx)
  have ho : ∀ a ∈ o.map val, -(p2 1574 : Int) ≤ a ∧ a ≤ (p2 1574 : Int) := fun a ha => by
    obtain ⟨x, hx, rfl⟩ := List.mem_map.1 ha
    exact val_cf (r5 x hx)
  refine ⟨St.cnt_none hM hd ho ?_, ?_⟩
  · rw [val_top.2]; exact Int.le_refl _
  · have := St.cnt_all hM hd ho (x := val (atW 6867989431740006400)) (by rw [val_top.1]; exact Int.le_refl _)
    rw [this, List.length_map]
theorem over_mono {d o : List Nat} {k p q : Int} (hp : -6867989431740006400 ≤ p) (hpq : p ≤ q) (hq : q ≤ 6867989431740006400) (h : over d o k p = true) : over d o k q = true := by
  unfold over at *
  have h := of_decide_eq_true h
  have := St.cnt_mono (val_mono (x := atW p) (y := atW q) (by rw [(atW_p hp (by omega)).1, (atW_p (by omega) hq).1]; exact hpq)) (d.map val) (o.map val)
  exact decide_eq_true (by omega)
theorem find_good {d o : List Nat} {k : Int} (hr : rightB d o = true) (h0 : 0 ≤ k) (h1 : k < d.length) : ∃ P : Int, findE d o k = 0 ∧ findL d o k = atW P ∧ findH d o k = atW (P + 1) ∧ -6867989431740006400 ≤ P ∧ P + 1 ≤ 6867989431740006400 ∧ over d o k P = false ∧ over d o k (P + 1) = true := by
  have he : findE d o k = 0 := by unfold findE; rw [if_pos hr, if_neg (by omega), if_neg (by omega)]
  obtain ⟨c1, c2⟩ := cnt_ends hr
  have lo : over d o k (-6867989431740006400) = false := by unfold over; rw [c1]; exact decide_eq_false (by omega)
  have hi : over d o k 6867989431740006400 = true := by unfold over; rw [c2]; exact decide_eq_true (by omega)
  have el : findL d o k = atW (findP d o k).1 := if_pos he
  have eh : findH d o k = atW (findP d o k).2 := if_pos he
  have key : -6867989431740006400 ≤ (findP d o k).1 ∧ (findP d o k).2 = (findP d o k).1 + 1 ∧ (findP d o k).2 ≤ 6867989431740006400 ∧ over d o k (findP d o k).1 = false ∧ over d o k (findP d o k).2 = true := by
    unfold findP
    cases hz : over d o k 0
    · rw [if_neg (by simp)]
      have := hlv_inv (over d o k) 64 0 6867989431740006400 (by decide) (by rw [two64]; decide) hz hi
      exact ⟨Int.le_trans (by decide) this.1, this.2.1, this.2.2.1, this.2.2.2⟩
    · rw [if_pos rfl]
      have := hlv_inv (over d o k) 64 (-6867989431740006400) 0 (by decide) (by rw [two64]; decide) lo hz
      exact ⟨this.1, this.2.1, Int.le_trans this.2.2.1 (by decide), this.2.2.2⟩
  refine ⟨(findP d o k).1, he, el, ?_, key.1, ?_, key.2.2.2.1, ?_⟩
  · rw [eh, key.2.1]
  · rw [← key.2.1]; exact key.2.2.1
  · rw [← key.2.1]; exact key.2.2.2.2
/-- The next eigenvalue's is no less. -/
theorem find_next {d o : List Nat} {k P Q : Int} (hP : -6867989431740006400 ≤ P) (hP2 : P + 1 ≤ 6867989431740006400) (hQ : -6867989431740006400 ≤ Q) (hQ2 : Q + 1 ≤ 6867989431740006400) (h1 : over d o k P = false) (h2 : over d o (k + 1) (Q + 1) = true) : P ≤ Q := by
  rcases (by omega : Q < P ∨ P ≤ Q) with h | h
  · have h3 : over d o k (Q + 1) = true := by unfold over at *; have := of_decide_eq_true h2; exact decide_eq_true (by omega)
    have := over_mono (by omega) (by omega : Q + 1 ≤ P) (by omega) h3
    rw [h1] at this; cases this
  · exact h
/-- What is found is counted. -/
theorem found {d o : List Nat} {p : Int} (hr : rightB d o = true) (h1 : -6867989431740006400 ≤ p) (h2 : p ≤ 6867989431740006400) : wrongE d o (atW p) = 0 ∧ exactN d o (atW p) = St.cnt (val (atW p)) (d.map val) (o.map val) := by
  have e := (atW_r h1 h2).1
  have hw : wrongE d o (atW p) = 0 := by unfold wrongE; rw [if_pos hr, if_neg (by omega), if_neg (by omega)]
  exact ⟨hw, if_pos hw⟩
end Go.Proofs.YtfjiojdnbdfenaaDoor


/- girderkit.Pick. -/
namespace Go.Proofs.YtfjiojdnbdfenaaDoor
open Go Go.RowKit Nv GFl
set_option maxRecDepth 100000
set_option linter.unusedSimpArgs false

theorem pick_e (x n : Int) (h1 : 1 ≤ n) (h2 : n ≤ 100) : ∃ K : Int, 0 ≤ K ∧ K < n ∧ ∀ W : World, Calls Tryd.prog 30 #[.int .i64 x, .int .i64 n] W fun e w' => e = .returned (.int .i64 K) ∧ W = w' := by
  have k1 : decide (n < 1) = false := decide_eq_false (by omega)
  have k2 : n ≠ 0 := by omega
  have m1 := Int.tmod_lt_of_pos x (show (0 : Int) < n by omega)
  have m2 : -n < x.tmod n := by
    have := Int.lt_tmod_of_pos x (show (0 : Int) < n by omega)
    omega
  have e1 : IntKind.i64.wrap (x.tmod n) = x.tmod n := by rw [IntKind.wrap_i64]; omega
  obtain ⟨m, hm⟩ : ∃ m, x.tmod n = m := ⟨_, rfl⟩
  rw [hm] at e1 m1 m2
  by_cases hn : m < 0
  · have k3 : decide (m < 0) = true := decide_eq_true hn
    refine ⟨m + n, by omega, by omega, fun W => ?_⟩
    go_enter Tryd.func30, Tryd.ntmps30
    go_wp2
    go_ret
    exact ⟨ret_int (by omega), rfl⟩
  · have k3 : decide (m < 0) = false := decide_eq_false hn
    refine ⟨m, by omega, by omega, fun W => ?_⟩
    go_enter Tryd.func30, Tryd.ntmps30
    go_wp2
    go_ret
    exact ⟨ret_int (by omega), rfl⟩
end Go.Proofs.YtfjiojdnbdfenaaDoor


/- girderlaw17.SturmBetween. -/
namespace Go.Proofs.YtfjiojdnbdfenaaDoor
open Go Go.RowKit Nv GFl
set_option maxRecDepth 100000
set_option linter.unusedSimpArgs false

/-- A world with the chain laid out. -/
structure CB (W w : World) (u v : Value) : Prop where
  b : Below W.heap.size W w
  r : w.heap[W.heap.size]? = some (.cells #[u, v] 24 (0, 0))
theorem CB.start (W : World) (u v : Value) : CB W (W.alloc (.cells #[u, v] 24)) u v := ⟨bl_alloc (Below.refl _ _) _, kb_new (Below.refl _ _)⟩
theorem CB.then {W w w' : World} {u v : Value} (h : CB W w u v) (hb : Below w.heap.size w w') : CB W w' u v := ⟨bl_then h.b hb, kb_keep hb h.r⟩
theorem CB.drewN {W w : World} {u v : Value} (h : CB W w u v) (n : Nat) : CB W (w.drewN n) u v := ⟨bl_drewN h.b n, h.r⟩
theorem CB.drew {W w : World} {u v : Value} (h : CB W w u v) : CB W w.drew u v := ⟨bl_drew h.b, h.r⟩
theorem ge_of {P Q : Int} (hP : -6867989431740006400 ≤ P) (hP2 : P ≤ 6867989431740006400) (hQ : -6867989431740006400 ≤ Q) (hQ2 : Q ≤ 6867989431740006400) (h : P ≤ Q) : (FloatKind.f64.format.order (atW Q) (atW P) == some .gt || FloatKind.f64.format.order (atW Q) (atW P) == some .eq) = true := by
  rw [t_ge (atW_r hQ hQ2).2.1 (atW_r hP hP2).2.1, (atW_p hP hP2).1, (atW_p hQ hQ2).1, (atW_p hP hP2).2.1, (atW_p hQ hQ2).2.1]
  simp [h]
/-- What the law asks, laid out: K the number, P the place, a and b the counts. -/
structure BF (A B : Option Addr) (cA cB : Nat) (d o : List Nat) (W : World) (K P a b : Int) : Prop where
  f : ∀ w, Below W.heap.size W w → Calls Tryd.prog 31 #[.agg #[.slice A d.length cA, .slice B o.length cB], .int .i64 K] w fun e w' => e = .returned (.tuple #[.float .f64 (atW P), .float .f64 (atW (P + 1)), .int .i64 0]) ∧ Below w.heap.size w w'
  e1 : ∀ w, Below W.heap.size W w → Calls Tryd.prog 15 #[.agg #[.slice A d.length cA, .slice B o.length cB], .float .f64 (atW P)] w fun e w' => e = .returned (.tuple #[.int .i64 a, .int .i64 0]) ∧ Below w.heap.size w w'
  e2 : ∀ w, Below W.heap.size W w → Calls Tryd.prog 15 #[.agg #[.slice A d.length cA, .slice B o.length cB], .float .f64 (atW (P + 1))] w fun e w' => e = .returned (.tuple #[.int .i64 b, .int .i64 0]) ∧ Below w.heap.size w w'
  p1 : ∀ w, Calls Tryd.prog 32 #[.float .f64 (atW P)] w fun e w' => e = .returned (.tuple #[.int .i64 P, .bool true]) ∧ w' = w
  p2 : ∀ w, Calls Tryd.prog 32 #[.float .f64 (atW (P + 1))] w fun e w' => e = .returned (.tuple #[.int .i64 (P + 1), .bool true]) ∧ w' = w
  ak : a ≤ K
  kb : K < b
  h1 : -6867989431740006400 ≤ P
  h2 : P + 1 ≤ 6867989431740006400
set_option maxHeartbeats 1000000 in
theorem bf_of {W : World} (A B : Option Addr) (cA cB : Nat) (d o : List Nat) (hA : d.length ≤ cA) (hB : o.length ≤ cB) (hd : Fl W A d) (ho : Fl W B o) (wd : ∀ x ∈ d, W64 x) (wo : ∀ x ∈ o, W64 x) (hT : Tab W) (hr : rightB d o = true) (K : Int) (h0 : 0 ≤ K) (h1 : K < d.length) :
    ∃ P a b, BF A B cA cB d o W K P a b ∧ over d o K P = false := by
  obtain ⟨P, g1, g2, g3, g4, g5, g6, g7⟩ := find_good hr h0 h1
  obtain ⟨u1, u2⟩ := found (d := d) (o := o) (p := P) hr g4 (by omega)
  obtain ⟨v1, v2⟩ := found (d := d) (o := o) (p := P + 1) hr (by omega) g5
  have q1 := atW_p (p := P) g4 (by omega)
  have q2 := atW_p (p := P + 1) (by omega) g5
  refine ⟨P, exactN d o (atW P), exactN d o (atW (P + 1)), ⟨fun w h => ?_, fun w h => ?_, fun w h => ?_, fun w => ?_, fun w => ?_, ?_, ?_, g4, g5⟩, g6⟩
  · have := find_c A B cA cB d o K w (hd.below h) (ho.below h) hA hB wd wo (hT.below h)
    rw [g1, g2, g3] at this
    exact this
  · have := exact_c A B cA cB d o (atW P) w (hd.below h) (ho.below h) hA hB wd wo (atW_r g4 (by omega)).2.1 (hT.below h)
    rw [u1] at this
    exact this
  · have := exact_c A B cA cB d o (atW (P + 1)) w (hd.below h) (ho.below h) hA hB wd wo (atW_r (by omega) g5).2.1 (hT.below h)
    rw [v1] at this
    exact this
  · have := place_c (atW P) (atW_r g4 (by omega)).2.1 w
    rw [q1.2.2, q1.2.1] at this
    exact this
  · have := place_c (atW (P + 1)) (atW_r (by omega) g5).2.1 w
    rw [q2.2.2, q2.2.1] at this
    exact this
  · rw [u2]; exact Int.not_lt.1 (of_decide_eq_false g6)
  · rw [v2]; exact of_decide_eq_true g7
set_option maxHeartbeats 4000000 in
theorem sturmBetween_no {W : World} (A B : Option Addr) (cA cB : Nat) (d o : List Nat) (k : Int) (hd : Fl W A d) (ho : Fl W B o) (wd : ∀ x ∈ d, W64 x) (wo : ∀ x ∈ o, W64 x) (hT : Tab W) (h : d.length = 0 ∨ 8 < d.length ∨ rightB d o = false) :
    Calls Tryd.prog 9 #[.agg #[.slice A d.length cA, .slice B o.length cB], .int .i64 k] W fun e w' => e = .returned (.bool true) ∧ Below W.heap.size W w' := by
  have aw : ∀ w, Below W.heap.size W w → Calls Tryd.prog 11 #[] w fun e w' => e = .returned (.bool true) ∧ Below w.heap.size w w' := fun w h => awake_c w (hT.below h)
  have rc : ∀ w, Below W.heap.size W w → Calls Tryd.prog 13 #[.agg #[.slice A d.length cA, .slice B o.length cB]] w fun e w' => e = .returned (.bool (rightB d o)) ∧ Below w.heap.size w w' := fun w h => right_c A B cA cB d o w (hd.below h) (ho.below h) wd wo
  have C0 := Lib.hid (CB.start W (.slice A d.length cA) (.slice B o.length cB))
  have AW := Lib.hid aw
  have RC := Lib.hid rc
  have H := Lib.hid h
  obtain ⟨r, hr⟩ : ∃ r, rightB d o = r := ⟨_, rfl⟩
  rw [hr] at RC H
  clear h hd ho wd wo hT aw rc hr
  by_cases k0 : d.length = 0
  · have k1 : ((d.length : Int) == 0) = true := by simpa using k0
    clear k0
    go_enter Tryd.func9, Tryd.ntmps9
    go_wp2_with (first
      | (go_at_call 11; (with_reducible refine (AW.out _ C0.out.b).mono ?_); rintro e w1 ⟨rfl, hb⟩; have c := CB.then C0.out hb; have cc0 := kb_cell c.r (i := 0) rfl; have cc1 := kb_cell c.r (i := 1) rfl; have C0 := Lib.hid c; clear c hb))
    go_ret
    exact ⟨rfl, by first | exact C0.out.b | exact bl_drewN C0.out.b _⟩
  · have k1 : ((d.length : Int) == 0) = false := by simpa using k0
    by_cases h8 : 8 < d.length
    · have k2 : decide (8 < (d.length : Int)) = true := decide_eq_true (by omega)
      clear k0 h8
      go_enter Tryd.func9, Tryd.ntmps9
      go_wp2_with (first
        | (go_at_call 11; (with_reducible refine (AW.out _ C0.out.b).mono ?_); rintro e w1 ⟨rfl, hb⟩; have c := CB.then C0.out hb; have cc0 := kb_cell c.r (i := 0) rfl; have cc1 := kb_cell c.r (i := 1) rfl; have C0 := Lib.hid c; clear c hb))
      go_ret
      exact ⟨rfl, by first | exact C0.out.b | exact bl_drewN C0.out.b _⟩
    · have k2 : decide (8 < (d.length : Int)) = false := decide_eq_false (by omega)
      have k3 : r = false := by rcases H.out with h | h | h; exact absurd h k0; exact absurd h h8; exact h
      subst k3
      clear k0 h8
      go_enter Tryd.func9, Tryd.ntmps9
      go_wp2_with (first
        | (go_at_call 11; (with_reducible refine (AW.out _ C0.out.b).mono ?_); rintro e w1 ⟨rfl, hb⟩; have c := CB.then C0.out hb; have cc0 := kb_cell c.r (i := 0) rfl; have cc1 := kb_cell c.r (i := 1) rfl; have C0 := Lib.hid c; clear c hb)
        | (go_at_call 13; (with_reducible refine (RC.out _ C0.out.b).mono ?_); rintro e w2 ⟨rfl, hb⟩; have c := CB.then C0.out hb; have cc0 := kb_cell c.r (i := 0) rfl; have cc1 := kb_cell c.r (i := 1) rfl; have C0 := Lib.hid c; clear c hb))
      go_ret
      exact ⟨rfl, by first | exact C0.out.b | exact bl_drewN C0.out.b _⟩
set_option maxHeartbeats 8000000 in
theorem sturmBetween_yes {W : World} (A B : Option Addr) (cA cB : Nat) (d o : List Nat) (k : Int) (hA : d.length ≤ cA) (hB : o.length ≤ cB) (hd : Fl W A d) (ho : Fl W B o) (wd : ∀ x ∈ d, W64 x) (wo : ∀ x ∈ o, W64 x) (hT : Tab W) (h0 : d.length ≠ 0) (h8 : d.length ≤ 8) (hr : rightB d o = true) :
    Calls Tryd.prog 9 #[.agg #[.slice A d.length cA, .slice B o.length cB], .int .i64 k] W fun e w' => e = .returned (.bool true) ∧ Below W.heap.size W w' := by
  have aw : ∀ w, Below W.heap.size W w → Calls Tryd.prog 11 #[] w fun e w' => e = .returned (.bool true) ∧ Below w.heap.size w w' := fun w h => awake_c w (hT.below h)
  have rc : ∀ w, Below W.heap.size W w → Calls Tryd.prog 13 #[.agg #[.slice A d.length cA, .slice B o.length cB]] w fun e w' => e = .returned (.bool (rightB d o)) ∧ Below w.heap.size w w' := fun w h => right_c A B cA cB d o w (hd.below h) (ho.below h) wd wo
  have C0 := Lib.hid (CB.start W (.slice A d.length cA) (.slice B o.length cB))
  obtain ⟨K, hK0, hK1, pk⟩ := pick_e k d.length (by omega) (by omega)
  obtain ⟨P, a, b, F, hov⟩ := bf_of A B cA cB d o hA hB hd ho wd wo hT hr K hK0 hK1
  have fn : ∃ (x y : Nat) (E : Int), (∀ w, Below W.heap.size W w → Calls Tryd.prog 31 #[.agg #[.slice A d.length cA, .slice B o.length cB], .int .i64 (K + 1)] w fun e w' => e = .returned (.tuple #[.float .f64 x, .float .f64 y, .int .i64 E]) ∧ Below w.heap.size w w') ∧
      ((K + 1 == (d.length : Int)) = true ∧ E = 270 ∧ x = 0 ∨ (K + 1 == (d.length : Int)) = false ∧ E = 0 ∧ (FloatKind.f64.format.order x (atW P) == some .gt || FloatKind.f64.format.order x (atW P) == some .eq) = true) := by
    by_cases hl : K + 1 = (d.length : Int)
    · have he : findE d o (K + 1) = 270 := by unfold findE; rw [if_pos hr, if_neg (by omega), if_pos (by omega)]
      have hx : findL d o (K + 1) = 0 := if_neg (by rw [he]; decide)
      refine ⟨findL d o (K + 1), findH d o (K + 1), findE d o (K + 1), fun w h => find_c A B cA cB d o (K + 1) w (hd.below h) (ho.below h) hA hB wd wo (hT.below h), Or.inl ⟨by simpa using hl, he, hx⟩⟩
    · obtain ⟨Q, a', b', F', hov'⟩ := bf_of A B cA cB d o hA hB hd ho wd wo hT hr (K + 1) (by omega) (by omega)
      obtain ⟨Q', g1, g2, g3, g4, g5, g6, g7⟩ := find_good hr (show 0 ≤ K + 1 by omega) (show K + 1 < d.length by omega)
      refine ⟨findL d o (K + 1), findH d o (K + 1), findE d o (K + 1), fun w h => find_c A B cA cB d o (K + 1) w (hd.below h) (ho.below h) hA hB wd wo (hT.below h), Or.inr ⟨by simpa using hl, g1, ?_⟩⟩
      rw [g2]
      exact ge_of F.h1 (by have := F.h2; omega) g4 (by omega) (find_next F.h1 F.h2 g4 g5 hov g7)
  obtain ⟨x, y, E, nx, hE⟩ := fn
  have k1 : ((d.length : Int) == 0) = false := by simpa using h0
  have k2 : decide (8 < (d.length : Int)) = false := decide_eq_false (by omega)
  have k3 : decide (K < a) = false := decide_eq_false (by have := F.ak; omega)
  have k4 : decide (b ≤ K) = false := decide_eq_false (by have := F.kb; omega)
  have ep : wrap64 (P + 1) = P + 1 := by have h1 := F.h1; have h2 := F.h2; unfold wrap64; omega
  have ek : wrap64 (K + 1) = K + 1 := by unfold wrap64; omega
  rw [hr] at rc
  have AW := Lib.hid aw
  have RC := Lib.hid rc
  have PK := Lib.hid pk
  have FF := Lib.hid F.f
  have E1 := Lib.hid F.e1
  have E2 := Lib.hid F.e2
  have P1 := Lib.hid F.p1
  have P2 := Lib.hid F.p2
  have NX := Lib.hid nx
  clear nx F pk rc aw hov h0 h8 hr hd ho hA hB wd wo hT hK0 hK1
  have z0 : (FloatKind.f64.format.order 0 0 == some .eq) = true := by decide
  rcases hE with ⟨t1, rfl, rfl⟩ | ⟨t1, rfl, t2⟩
  all_goals
    go_enter Tryd.func9, Tryd.ntmps9
    go_wp2_with (first
      | (go_at_call 11; (with_reducible refine (AW.out _ C0.out.b).mono ?_); rintro e w1 ⟨rfl, hb⟩; have c := CB.then C0.out hb; have cc0 := kb_cell c.r (i := 0) rfl; have cc1 := kb_cell c.r (i := 1) rfl; have C0 := Lib.hid c; clear c hb)
      | (go_at_call 13; (with_reducible refine (RC.out _ C0.out.b).mono ?_); rintro e w2 ⟨rfl, hb⟩; have c := CB.then C0.out hb; have cc0 := kb_cell c.r (i := 0) rfl; have cc1 := kb_cell c.r (i := 1) rfl; have C0 := Lib.hid c; clear c hb)
      | (go_at_call 30; (with_reducible refine (PK.out _).mono ?_); rintro e w' ⟨rfl, hw⟩; obtain rfl := hw.symm; clear hw)
      | (go_at_call 31; (with_reducible refine (FF.out _ C0.out.b).mono ?_); rintro e w3 ⟨rfl, hb⟩; have c := CB.then C0.out hb; have cc0 := kb_cell c.r (i := 0) rfl; have cc1 := kb_cell c.r (i := 1) rfl; have C0 := Lib.hid c; clear c hb)
      | (go_at_call 31; (with_reducible refine (NX.out _ C0.out.b).mono ?_); rintro e w3 ⟨rfl, hb⟩; have c := CB.then C0.out hb; have cc0 := kb_cell c.r (i := 0) rfl; have cc1 := kb_cell c.r (i := 1) rfl; have C0 := Lib.hid c; clear c hb)
      | (go_at_call 15; (with_reducible refine (E1.out _ C0.out.b).mono ?_); rintro e w3 ⟨rfl, hb⟩; have c := CB.then C0.out hb; have cc0 := kb_cell c.r (i := 0) rfl; have cc1 := kb_cell c.r (i := 1) rfl; have C0 := Lib.hid c; clear c hb)
      | (go_at_call 15; (with_reducible refine (E2.out _ C0.out.b).mono ?_); rintro e w3 ⟨rfl, hb⟩; have c := CB.then C0.out hb; have cc0 := kb_cell c.r (i := 0) rfl; have cc1 := kb_cell c.r (i := 1) rfl; have C0 := Lib.hid c; clear c hb)
      | (go_at_call 32; (with_reducible refine (P1.out _).mono ?_); rintro e w' ⟨rfl, hw⟩; obtain rfl := hw.symm; clear hw)
      | (go_at_call 32; (with_reducible refine (P2.out _).mono ?_); rintro e w' ⟨rfl, hw⟩; obtain rfl := hw.symm; clear hw))
    go_ret
    exact ⟨rfl, by first | exact C0.out.b | exact bl_drewN C0.out.b _⟩
theorem sturmBetween_c {W : World} (A B : Option Addr) (cA cB : Nat) (d o : List Nat) (k : Int) (hA : d.length ≤ cA) (hB : o.length ≤ cB) (hd : Fl W A d) (ho : Fl W B o) (wd : ∀ x ∈ d, W64 x) (wo : ∀ x ∈ o, W64 x) (_ : -9223372036854775808 ≤ k) (_ : k ≤ 9223372036854775807) (hT : Tab W) :
    Calls Tryd.prog 9 #[.agg #[.slice A d.length cA, .slice B o.length cB], .int .i64 k] W fun e w' => e = .returned (.bool true) ∧ Below W.heap.size W w' := by
  by_cases h : d.length = 0 ∨ 8 < d.length ∨ rightB d o = false
  · exact sturmBetween_no A B cA cB d o k hd ho wd wo hT h
  · refine sturmBetween_yes A B cA cB d o k hA hB hd ho wd wo hT (fun h0 => h (Or.inl h0)) ?_ ?_
    · rcases Nat.lt_or_ge 8 d.length with h8 | h8
      · exact absurd (Or.inr (Or.inl h8)) h
      · exact h8
    · cases hr : rightB d o
      · exact absurd (Or.inr (Or.inr hr)) h
      · rfl
end Go.Proofs.YtfjiojdnbdfenaaDoor


/- Count never falls as x rises, whatever is rounded (plain). -/
namespace Go.Proofs.YtfjiojdnbdfenaaDoor
open Go Nv GFl Ieee
set_option maxRecDepth 100000

theorem nn_plc {z : Nat} (h : Nn z) : -9218868437227405312 ≤ plc z ∧ plc z ≤ 9218868437227405312 := by
  have := h.r
  rw [plc_eq]
  split <;> omega
theorem plc_wd {s : Bool} {r : Nat} (h : r ≤ 9218868437227405312) : plc (wd s r) = if s then -(r : Int) else (r : Int) := by rw [plc_eq, wd_rg (by omega), wd_neg (by omega)]
theorem val_mono' {x y : Nat} (h : plc x ≤ plc y) : val x ≤ val y := by
  rcases (by omega : val y < val x ∨ val x ≤ val y) with h1 | h1
  · have h2 : plc y < plc x := sv_lt_iff.1 h1
    omega
  · exact h1
/-- Differences of finite floats rise with what they round. -/
theorem sub_up {x y x' y' : Nat} (hx : W64 x) (hy : W64 y) (hx' : W64 x') (hy' : W64 y') (fx : rg x < 9218868437227405312) (fy : rg y < 9218868437227405312) (fx' : rg x' < 9218868437227405312) (fy' : rg y' < 9218868437227405312)
    (h : val x - val y ≤ val x' - val y') : plc (fsub x y) ≤ plc (fsub x' y') := by
  obtain ⟨r, hr, e⟩ := sub64 hx hy fx fy
  obtain ⟨r', hr', e'⟩ := sub64 hx' hy' fx' fy'
  rw [fsub_of e, fsub_of e', plc_wd (Nat.min_le_right _ _), plc_wd (Nat.min_le_right _ _)]
  generalize val x - val y = u at *
  generalize val x' - val y' = v at *
  have z : r = 0 ∨ 0 < r := by omega
  have m1 : u.natAbs ≤ v.natAbs → r ≤ r' := fun h => hr.mono B52_pos (by decide) (by decide) hr' (by omega)
  have m2 : v.natAbs ≤ u.natAbs → r' ≤ r := fun h => hr'.mono B52_pos (by decide) (by decide) hr (by omega)
  have z1 : u = 0 → r = 0 := fun h => by subst h; exact hr.unique B52_pos (by decide) (IsRn.zero B52_pos (by decide))
  have z2 : v = 0 → r' = 0 := fun h => by subst h; exact hr'.unique B52_pos (by decide) (IsRn.zero B52_pos (by decide))
  by_cases h1 : u = 0
  · have := z1 h1
    subst this
    rw [if_pos h1]
    by_cases h2 : v = 0
    · have := z2 h2
      subst this
      rw [if_pos h2]
      split <;> split <;> simp
    · rw [if_neg h2, decide_eq_false (show ¬ v < 0 by omega)]
      split <;> simp <;> omega
  · rw [if_neg h1]
    by_cases h2 : v = 0
    · have := z2 h2
      subst this
      rw [if_pos h2, decide_eq_true (show u < 0 by omega), Nat.zero_min]
      generalize min r 9218868437227405312 = m
      simp only [if_true]
      split <;> omega
    · rw [if_neg h2]
      by_cases h3 : u < 0
      · rw [decide_eq_true h3]
        by_cases h4 : v < 0
        · rw [decide_eq_true h4]
          have := m2 (by omega)
          simp only [if_true]; omega
        · rw [decide_eq_false h4]
          simp only [if_true, if_false, Bool.false_eq_true]; omega
      · rw [decide_eq_false h3, decide_eq_false (show ¬ v < 0 by omega)]
        have := m1 (by omega)
        simp only [if_false, Bool.false_eq_true]; omega
theorem inf_plc {x : Nat} (h : rg x = 9218868437227405312) : plc x = if neg x then -9218868437227405312 else 9218868437227405312 := by rw [plc_eq, h]; rfl
theorem sub_inf {x y : Nat} (hx : W64 x) (h1 : rg x < 9218868437227405312) (hy : W64 y) (hi : rg y = 9218868437227405312) : fsub x y = wd (!neg y) 9218868437227405312 := by
  obtain ⟨m, e, hr⟩ := read_n hx h1
  refine fsub_of ?_
  unfold Format.sub
  rw [hr, read_i hy hi, ← write_i]; rfl
theorem fsub_up {a b q r : Nat} (ha : W64 a) (hb : W64 b) (fa : rg a < 9218868437227405312) (fb : rg b < 9218868437227405312) (hq : Nn q) (hr : Nn r) (h1 : plc b ≤ plc a) (h2 : plc q ≤ plc r) : plc (fsub b r) ≤ plc (fsub a q) := by
  have n1 : Nn (fsub b r) := by obtain ⟨z, e, hz⟩ := sub_nn hb fb hr; rw [fsub_of e]; exact hz
  have n2 : Nn (fsub a q) := by obtain ⟨z, e, hz⟩ := sub_nn ha fa hq; rw [fsub_of e]; exact hz
  have b1 := nn_plc n1
  have b2 := nn_plc n2
  rcases Nat.lt_or_ge (rg r) 9218868437227405312 with fr | fr
  · rcases Nat.lt_or_ge (rg q) 9218868437227405312 with fq | fq
    · refine sub_up hb hr.w ha hq.w fb fr fa fq ?_
      have := val_mono' h1
      have := val_mono' h2
      omega
    · have iq : rg q = 9218868437227405312 := Nat.le_antisymm hq.r fq
      cases hn : neg q
      · rw [inf_plc iq, hn] at h2
        have : plc r < 9218868437227405312 := by rw [plc_eq]; split <;> omega
        simp at h2; omega
      · rw [sub_inf ha fa hq.w iq, hn, plc_wd (Nat.le_refl _)]
        simpa using b1.2
  · have ir : rg r = 9218868437227405312 := Nat.le_antisymm hr.r fr
    cases hn : neg r
    · rw [sub_inf hb fb hr.w ir, hn, plc_wd (Nat.le_refl _)]
      simpa using b2.1
    · rw [inf_plc ir, hn] at h2
      have iq : plc q = -9218868437227405312 := by have := nn_plc hq; simp at h2; omega
      have e1 : rg q = 9218868437227405312 := by rw [← plc_natAbs, iq]; rfl
      have e2 : neg q = true := by rw [inf_plc e1] at iq; cases h : neg q; rw [h] at iq; simp at iq; rfl
      rw [sub_inf ha fa hq.w e1, e2, plc_wd (Nat.le_refl _)]
      simpa using b1.2
/-- A quotient of no negative number. -/
theorem div_mag {s d : Nat} (hs : W64 s) (fs : rg s < 9218868437227405312) (ns : neg s = false) (hd : Nn d) (h0 : rg d ≠ 0) : ∃ r, fdiv s d = wd (neg d) r ∧ r ≤ 9218868437227405312 ∧
    (rg d < 9218868437227405312 → ∃ q, r = min q 9218868437227405312 ∧ IsRn B52 (mg B52 (rg s) * p2 1074) (mg B52 (rg d)) q) ∧ (rg d = 9218868437227405312 → r = 0) := by
  rcases Nat.lt_or_ge (rg d) 9218868437227405312 with h | h
  · obtain ⟨r, hr, e⟩ := div64 hs hd.w fs h h0
    rw [ns, Bool.false_xor] at e
    exact ⟨_, fdiv_of e, Nat.min_le_right _ _, fun _ => ⟨r, rfl, hr⟩, fun h' => by omega⟩
  · have hi : rg d = 9218868437227405312 := Nat.le_antisymm hd.r h
    obtain ⟨m, e, hr⟩ := read_n hs fs
    have e2 : double.div s d = some (double.write (.number (neg s ^^ neg d) 0 0)) := by
      unfold Format.div
      rw [hr, read_i hd.w hi]; rfl
    rw [ns, Bool.false_xor] at e2
    refine ⟨0, ?_, by decide, fun h' => by omega, fun _ => rfl⟩
    rw [fdiv_of e2]
    cases neg d <;> decide
theorem mg_ne {r : Nat} (h : r ≠ 0) : 0 < mg B52 r := by have := le_mg B52 r B52_pos; omega
theorem div_down {s d d' : Nat} (hs : W64 s) (fs : rg s < 9218868437227405312) (ns : neg s = false) (hd : Nn d) (h0 : rg d ≠ 0) (hd' : Nn d') (h0' : rg d' ≠ 0) (h : rg d ≤ rg d') : rg (fdiv s d') ≤ rg (fdiv s d) := by
  obtain ⟨r, e, b, f1, f2⟩ := div_mag hs fs ns hd h0
  obtain ⟨r', e', b', f1', f2'⟩ := div_mag hs fs ns hd' h0'
  rw [e, e', wd_rg (by omega), wd_rg (by omega)]
  rcases Nat.lt_or_ge (rg d') 9218868437227405312 with k | k
  · obtain ⟨q, rfl, hq⟩ := f1 (by omega)
    obtain ⟨q', rfl, hq'⟩ := f1' k
    have : q' ≤ q := hq'.mono B52_pos (mg_ne h0') (mg_ne h0) hq (Nat.mul_le_mul_left _ (mg_mono B52_pos h))
    exact Nat.le_min.2 ⟨Nat.le_trans (Nat.min_le_left _ _) this, Nat.min_le_right _ _⟩
  · rw [f2' (Nat.le_antisymm hd'.r k)]; exact Nat.zero_le _
/-- How pivots stand: as one over them does. -/
def Ov (d d' : Nat) : Prop := (neg d = true ∧ neg d' = false) ∨ (neg d = neg d' ∧ plc d' ≤ plc d)
theorem div_up {s d d' : Nat} (hs : W64 s) (fs : rg s < 9218868437227405312) (ns : neg s = false) (hd : Nn d) (h0 : rg d ≠ 0) (hd' : Nn d') (h0' : rg d' ≠ 0) (h : Ov d d') : plc (fdiv s d) ≤ plc (fdiv s d') := by
  have n1 : neg (fdiv s d) = neg d := by obtain ⟨r, e, b, _⟩ := div_mag hs fs ns hd h0; rw [e, wd_neg (by omega)]
  have n2 : neg (fdiv s d') = neg d' := by obtain ⟨r, e, b, _⟩ := div_mag hs fs ns hd' h0'; rw [e, wd_neg (by omega)]
  have m1 := div_down hs fs ns hd h0 hd' h0'
  have m2 := div_down hs fs ns hd' h0' hd h0
  rw [plc_eq, plc_eq, n1, n2]
  rcases h with ⟨h1, h2⟩ | ⟨h1, h2⟩
  · rw [h1, h2]; simp only [if_true, if_false, Bool.false_eq_true]; omega
  · rw [plc_eq, plc_eq] at h2
    rw [h1] at h2 ⊢
    cases hn : neg d' <;> rw [hn] at h2 <;> simp only [if_true, if_false, Bool.false_eq_true] at h2 ⊢
    · have := m2 (by omega); omega
    · have := m1 (by omega); omega
theorem tiny_plc : plc 9223372036854775809 = -1 := by decide
theorem tiny_neg : neg 9223372036854775809 = true := by decide
theorem neg_plc {n : Nat} (h : rg n ≠ 0) : neg n = decide (plc n < 0) := by
  rw [plc_eq]; cases neg n <;> simp <;> omega
theorem fix_up {n m : Nat} (h : plc m ≤ plc n) : plc (fix m) ≤ plc (fix n) := by
  unfold fix
  by_cases h1 : rg n = 0
  · have : plc n = 0 := plc_zero.2 h1
    rw [if_pos h1]
    by_cases h2 : rg m = 0
    · rw [if_pos h2]; exact Int.le_refl _
    · rw [if_neg h2, tiny_plc]
      have : plc m ≠ 0 := fun h => h2 (plc_zero.1 h)
      omega
  · rw [if_neg h1]
    by_cases h2 : rg m = 0
    · have e : plc m = 0 := plc_zero.2 h2
      rw [if_pos h2, tiny_plc]; omega
    · rw [if_neg h2]; exact h
/-- How two counts stand. -/
def Cm (c c' : Int) (d d' : Nat) : Prop := c < c' ∨ (c = c' ∧ Ov d d')
theorem cm_next {c c' : Int} {n m : Nat} (h : c < c' ∨ (c = c' ∧ plc m ≤ plc n)) (hn : rg n ≠ 0) (hm : rg m ≠ 0) : Cm (c + (if neg n then 1 else 0)) (c' + (if neg m then 1 else 0)) n m := by
  have e1 := neg_plc hn
  have e2 := neg_plc hm
  unfold Cm Ov
  cases h1 : neg n <;> cases h2 : neg m
  · simp only [Bool.false_eq_true, if_false]
    rcases h with h | ⟨h, k⟩
    · exact Or.inl (by omega)
    · exact Or.inr ⟨by omega, Or.inr ⟨by first | trivial | rfl, k⟩⟩
  · simp only [Bool.false_eq_true, if_false, if_true]
    exact Or.inl (by omega)
  · simp only [Bool.false_eq_true, if_false, if_true]
    rw [h1] at e1; rw [h2] at e2
    have e1 := of_decide_eq_true e1.symm
    have e2 := of_decide_eq_false e2.symm
    rcases h with h | ⟨h, k⟩
    · rcases (by omega : c + 1 < c' ∨ c + 1 = c') with h | h
      · exact Or.inl (by omega)
      · exact Or.inr ⟨by omega, Or.inl ⟨by first | trivial | rfl, by first | trivial | rfl⟩⟩
    · omega
  · simp only [if_true]
    rcases h with h | ⟨h, k⟩
    · exact Or.inl (by omega)
    · exact Or.inr ⟨by omega, Or.inr ⟨by first | trivial | rfl, k⟩⟩
structure Xf (x : Nat) : Prop where
  w : W64 x
  r : rg x ≤ 6867989431740006400
theorem piv1_up {a x y : Nat} (ha : Cf a) (hx : Xf x) (hy : Xf y) (h : plc x ≤ plc y) : plc (fsub a y) ≤ plc (fsub a x) := by
  have f1 := ha.fin
  have f2 := hx.r
  have f3 := hy.r
  refine sub_up ha.w hy.w ha.w hx.w f1 (by omega) f1 (by omega) ?_
  have := val_mono' h
  omega
theorem cF_up {x y : Nat} (hx : Xf x) (hy : Xf y) (h : plc x ≤ plc y) : ∀ (r : List (Nat × Option Nat)) (d d' : Nat) (c c' : Int), (∀ z ∈ r, Cf z.1 ∧ ∀ b, z.2 = some b → Cf b) → Nn d → rg d ≠ 0 → Nn d' → rg d' ≠ 0 → Cm c c' d d' → c + cF x r d ≤ c' + cF y r d' := by
  intro r
  induction r with
  | nil =>
    intro d d' c c' _ _ _ _ _ hc
    unfold cF
    rcases hc with h | ⟨h, _⟩ <;> omega
  | cons z r ih =>
    obtain ⟨a, b⟩ := z
    intro d d' c c' hz hd h0 hd' h0' hc
    obtain ⟨ha, hb⟩ := hz (a, b) List.mem_cons_self
    have hr : ∀ z ∈ r, Cf z.1 ∧ ∀ b, z.2 = some b → Cf b := fun z hz' => hz z (List.mem_cons_of_mem _ hz')
    rw [cF_cons, cF_cons, ← Int.add_assoc, ← Int.add_assoc]
    have key : Nn (piv x a b d) ∧ Nn (piv y a b d') ∧ (c < c' ∨ (c = c' ∧ plc (piv y a b d') ≤ plc (piv x a b d))) := by
      cases b with
      | none =>
        refine ⟨(piv_ok ha hx.w hx.r).2.1, (piv_ok ha hy.w hy.r).2.1, ?_⟩
        rcases hc with h1 | ⟨h1, _⟩
        · exact Or.inl h1
        · exact Or.inr ⟨h1, piv1_up ha hx hy h⟩
      | some b =>
        have hb := hb b rfl
        refine ⟨(piv2_ok ha hx.w hx.r hb hd h0).2, (piv2_ok ha hy.w hy.r hb hd' h0').2, ?_⟩
        rcases hc with h1 | ⟨h1, h2⟩
        · exact Or.inl h1
        · obtain ⟨_, s1, s2, s3⟩ := sq_ok hb
          obtain ⟨_, p1, p2⟩ := piv_ok ha hx.w hx.r
          obtain ⟨_, q1, q2⟩ := piv_ok ha hy.w hy.r
          exact Or.inr ⟨h1, fsub_up p1.w q1.w p2 q2 (q_ok hb hd h0).2 (q_ok hb hd' h0').2 (piv1_up ha hx hy h) (div_up s1 s3 s2 hd h0 hd' h0' h2)⟩
    obtain ⟨k1, k2, k3⟩ := key
    obtain ⟨f1, f2⟩ := fix_nn k1
    obtain ⟨g1, g2⟩ := fix_nn k2
    refine ih _ _ _ _ hr f1 f2 g1 g2 (cm_next ?_ f2 g2)
    rcases k3 with h1 | ⟨h1, h2⟩
    · exact Or.inl h1
    · exact Or.inr ⟨h1, fix_up h2⟩
theorem cR_mem : ∀ (d : List Nat) (p : Option Nat) (o : List Nat), (∀ x ∈ d, Cf x) → (∀ x ∈ o, Cf x) → (∀ b, p = some b → Cf b) → ∀ z ∈ cR p d o, Cf z.1 ∧ ∀ b, z.2 = some b → Cf b := by
  intro d
  induction d with
  | nil => intro p o _ _ _ z hz; cases hz
  | cons a d ih =>
    intro p o hd ho hp z hz
    rcases List.mem_cons.1 hz with rfl | hz
    · exact ⟨hd a List.mem_cons_self, hp⟩
    · refine ih o.head? o.tail (fun x hx => hd x (List.mem_cons_of_mem _ hx)) (fun x hx => ho x (List.mem_of_mem_tail hx)) ?_ z hz
      intro b hb
      cases o with
      | nil => cases hb
      | cons u o => have : u = b := by simpa using hb
                    subst this; exact ho u List.mem_cons_self
/-- Count never falls. -/
theorem cntF_up {x y : Nat} {d o : List Nat} (hx : Xf x) (hy : Xf y) (h : plc x ≤ plc y) (hd : ∀ x ∈ d, Cf x) (ho : ∀ x ∈ o, Cf x) : cntF x d o ≤ cntF y d o := by
  unfold cntF
  cases d with
  | nil => exact Int.le_refl _
  | cons a d =>
    have ha := hd a List.mem_cons_self
    show (if neg (fix (fsub a x)) then 1 else 0) + cF x (cR o.head? d o.tail) (fix (fsub a x)) ≤ (if neg (fix (fsub a y)) then 1 else 0) + cF y (cR o.head? d o.tail) (fix (fsub a y))
    obtain ⟨f1, f2⟩ := fix_nn (piv_ok ha hx.w hx.r).2.1
    obtain ⟨g1, g2⟩ := fix_nn (piv_ok ha hy.w hy.r).2.1
    refine cF_up hx hy h _ _ _ _ _ (cR_mem d _ _ (fun x hx => hd x (List.mem_cons_of_mem _ hx)) (fun x hx => ho x (List.mem_of_mem_tail hx)) ?_) f1 f2 g1 g2 ?_
    · intro b hb
      cases o with
      | nil => cases hb
      | cons u o => have : u = b := by simpa using hb
                    subst this; exact ho u List.mem_cons_self
    · have := cm_next (c := 0) (c' := 0) (Or.inr ⟨rfl, fix_up (piv1_up ha hx hy h)⟩) f2 g2
      simpa using this
end Go.Proofs.YtfjiojdnbdfenaaDoor


/- girderlaw17.SturmRises. -/
namespace Go.Proofs.YtfjiojdnbdfenaaDoor
open Go Go.RowKit Nv GFl
set_option maxRecDepth 100000
set_option linter.unusedSimpArgs false

/-- What the four counts answer. -/
structure RF (A B : Option Addr) (cA cB : Nat) (d o : List Nat) (W : World) (x y : Nat) (a b k l e f : Int) : Prop where
  cx : ∀ w, Below W.heap.size W w → Calls Tryd.prog 14 #[.agg #[.slice A d.length cA, .slice B o.length cB], .float .f64 x] w fun E w' => E = .returned (.tuple #[.int .i64 a, .int .i64 e]) ∧ Below w.heap.size w w'
  cy : ∀ w, Below W.heap.size W w → Calls Tryd.prog 14 #[.agg #[.slice A d.length cA, .slice B o.length cB], .float .f64 y] w fun E w' => E = .returned (.tuple #[.int .i64 b, .int .i64 f]) ∧ Below w.heap.size w w'
  ex : ∀ w, Below W.heap.size W w → Calls Tryd.prog 15 #[.agg #[.slice A d.length cA, .slice B o.length cB], .float .f64 x] w fun E w' => E = .returned (.tuple #[.int .i64 k, .int .i64 e]) ∧ Below w.heap.size w w'
  ey : ∀ w, Below W.heap.size W w → Calls Tryd.prog 15 #[.agg #[.slice A d.length cA, .slice B o.length cB], .float .f64 y] w fun E w' => E = .returned (.tuple #[.int .i64 l, .int .i64 f]) ∧ Below w.heap.size w w'
theorem rf_of {W : World} (A B : Option Addr) (cA cB : Nat) (d o : List Nat) (hA : d.length ≤ cA) (hB : o.length ≤ cB) (hd : Fl W A d) (ho : Fl W B o) (wd : ∀ x ∈ d, W64 x) (wo : ∀ x ∈ o, W64 x) (hT : Tab W) {x y : Nat} (hx : W64 x) (hy : W64 y) :
    RF A B cA cB d o W x y (countN d o x) (countN d o y) (exactN d o x) (exactN d o y) (wrongE d o x) (wrongE d o y) :=
  ⟨fun w h => count_c A B cA cB d o x w (hd.below h) (ho.below h) wd wo hx, fun w h => count_c A B cA cB d o y w (hd.below h) (ho.below h) wd wo hy,
   fun w h => exact_c A B cA cB d o x w (hd.below h) (ho.below h) hA hB wd wo hx (hT.below h), fun w h => exact_c A B cA cB d o y w (hd.below h) (ho.below h) hA hB wd wo hy (hT.below h)⟩
theorem wrong_zero {d o : List Nat} {x : Nat} (h : wrongE d o x = 0) : rightB d o = true ∧ rg x ≤ 6867989431740006400 := by
  unfold wrongE at h
  by_cases hr : rightB d o = true
  · refine ⟨hr, ?_⟩
    rw [if_pos hr] at h
    rcases Nat.lt_or_ge 6867989431740006400 (rg x) with h1 | h1
    · rw [if_pos h1] at h; split at h <;> cases h
    · exact h1
  · rw [if_neg hr] at h; cases h
theorem count_rg {d o : List Nat} {x : Nat} (h : wrongE d o x = 0) : 0 ≤ countN d o x ∧ countN d o x ≤ d.length ∧ 0 ≤ exactN d o x ∧ exactN d o x ≤ d.length := by
  unfold countN exactN
  rw [if_pos h, if_pos h]
  have h1 := cF_range x (cR none d o) 0
  rw [cR_len] at h1
  have h2 := St.cnt_range (val x) (d.map val) (o.map val)
  rw [List.length_map] at h2
  exact ⟨h1.1, h1.2, h2.1, h2.2⟩
theorem count_up {d o : List Nat} {x y : Nat} (wd : ∀ x ∈ d, W64 x) (wo : ∀ x ∈ o, W64 x) (hx : W64 x) (hy : W64 y) (h1 : wrongE d o x = 0) (h2 : wrongE d o y = 0) (h : plc x ≤ plc y) : countN d o x ≤ countN d o y ∧ exactN d o x ≤ exactN d o y := by
  obtain ⟨hr, x1⟩ := wrong_zero h1
  obtain ⟨_, y1⟩ := wrong_zero h2
  obtain ⟨_, _, _, r4, r5⟩ := rightB_d hr
  unfold countN exactN
  rw [if_pos h1, if_pos h2, if_pos h1, if_pos h2]
  exact ⟨cntF_up ⟨hx, x1⟩ ⟨hy, y1⟩ h (fun z hz => ⟨wd z hz, r4 z hz⟩) (fun z hz => ⟨wo z hz, r5 z hz⟩), St.cnt_mono (val_mono h) _ _⟩
set_option maxHeartbeats 8000000 in
theorem sturmRises_w {W : World} (A B : Option Addr) (cA cB : Nat) (d o : List Nat) (x y x1 y1 : Nat) (a b k l e f : Int) (t : Bool) (hd : Fl W A d) (ho : Fl W B o) (wd : ∀ x ∈ d, W64 x) (wo : ∀ x ∈ o, W64 x) (hT : Tab W)
    (ht : (FloatKind.f64.format.order x y == some .gt) = t) (hs : (t = true ∧ x1 = y ∧ y1 = x) ∨ (t = false ∧ x1 = x ∧ y1 = y)) (F : RF A B cA cB d o W x1 y1 a b k l e f)
    (NO : rightB d o = true → ∀ w, Below W.heap.size W w → Calls Tryd.prog 15 #[.agg #[.slice A d.length cA, .slice B o.length cB], .float .f64 16091361468594782208] w fun E w' => E = .returned (.tuple #[.int .i64 0, .int .i64 0]) ∧ Below w.heap.size w w')
    (AL : rightB d o = true → ∀ w, Below W.heap.size W w → Calls Tryd.prog 15 #[.agg #[.slice A d.length cA, .slice B o.length cB], .float .f64 6867989431740006400] w fun E w' => E = .returned (.tuple #[.int .i64 d.length, .int .i64 0]) ∧ Below w.heap.size w w')
    (h : (rightB d o = false ∧ e = 4 ∧ f = 4 ∧ a = 0 ∧ b = 0 ∧ k = 0 ∧ l = 0) ∨ (rightB d o = true ∧ e ≠ 0) ∨ (rightB d o = true ∧ e = 0 ∧ f ≠ 0 ∧ 0 ≤ a ∧ a ≤ d.length ∧ 0 ≤ k ∧ k ≤ d.length) ∨ (rightB d o = true ∧ e = 0 ∧ f = 0 ∧ 0 ≤ a ∧ a ≤ d.length ∧ 0 ≤ k ∧ k ≤ d.length ∧ a ≤ b ∧ k ≤ l)) :
    Calls Tryd.prog 6 #[.agg #[.slice A d.length cA, .slice B o.length cB], .float .f64 x, .float .f64 y] W fun e w' => e = .returned (.bool true) ∧ Below W.heap.size W w' := by
  have aw : ∀ w, Below W.heap.size W w → Calls Tryd.prog 11 #[] w fun e w' => e = .returned (.bool true) ∧ Below w.heap.size w w' := fun w h => awake_c w (hT.below h)
  have rc : ∀ w, Below W.heap.size W w → Calls Tryd.prog 13 #[.agg #[.slice A d.length cA, .slice B o.length cB]] w fun e w' => e = .returned (.bool (rightB d o)) ∧ Below w.heap.size w w' := fun w h => right_c A B cA cB d o w (hd.below h) (ho.below h) wd wo
  have C0 := Lib.hid (CB.start W (.slice A d.length cA) (.slice B o.length cB))
  have AW := Lib.hid aw
  have CX := Lib.hid F.cx
  have CY := Lib.hid F.cy
  have EX := Lib.hid F.ex
  have EY := Lib.hid F.ey
  clear hd ho wd wo hT aw F
  rcases h with ⟨hr, rfl, rfl, rfl, rfl, rfl, rfl⟩ | ⟨hr, he⟩ | ⟨hr, rfl, hf, ha, ha', hk, hk'⟩ | ⟨hr, rfl, rfl, ha, ha', hk, hk', hab, hkl⟩
  · rw [hr] at rc
    have RC := Lib.hid rc
    clear rc hr NO AL
    rcases hs with ⟨rfl, rfl, rfl⟩ | ⟨rfl, rfl, rfl⟩
    all_goals
      go_enter Tryd.func6, Tryd.ntmps6
      go_wp2_with (first
      | (go_at_call 11; (with_reducible refine (AW.out _ C0.out.b).mono ?_); rintro e w1 ⟨rfl, hb⟩; have c := CB.then C0.out hb; have cc0 := kb_cell c.r (i := 0) rfl; have cc1 := kb_cell c.r (i := 1) rfl; have C0 := Lib.hid c; clear c hb)
      | (go_at_call 14; (with_reducible refine (CX.out _ C0.out.b).mono ?_); rintro e w1 ⟨rfl, hb⟩; have c := CB.then C0.out hb; have cc0 := kb_cell c.r (i := 0) rfl; have cc1 := kb_cell c.r (i := 1) rfl; have C0 := Lib.hid c; clear c hb)
      | (go_at_call 14; (with_reducible refine (CY.out _ C0.out.b).mono ?_); rintro e w1 ⟨rfl, hb⟩; have c := CB.then C0.out hb; have cc0 := kb_cell c.r (i := 0) rfl; have cc1 := kb_cell c.r (i := 1) rfl; have C0 := Lib.hid c; clear c hb)
      | (go_at_call 15; (with_reducible refine (EX.out _ C0.out.b).mono ?_); rintro e w1 ⟨rfl, hb⟩; have c := CB.then C0.out hb; have cc0 := kb_cell c.r (i := 0) rfl; have cc1 := kb_cell c.r (i := 1) rfl; have C0 := Lib.hid c; clear c hb)
      | (go_at_call 15; (with_reducible refine (EY.out _ C0.out.b).mono ?_); rintro e w1 ⟨rfl, hb⟩; have c := CB.then C0.out hb; have cc0 := kb_cell c.r (i := 0) rfl; have cc1 := kb_cell c.r (i := 1) rfl; have C0 := Lib.hid c; clear c hb)
      | (go_at_call 13; (with_reducible refine (RC.out _ C0.out.b).mono ?_); rintro e w1 ⟨rfl, hb⟩; have c := CB.then C0.out hb; have cc0 := kb_cell c.r (i := 0) rfl; have cc1 := kb_cell c.r (i := 1) rfl; have C0 := Lib.hid c; clear c hb))
      go_ret
      exact ⟨rfl, by first | exact C0.out.b | exact bl_drewN C0.out.b _⟩
  · have k1 : (e == 0) = false := by simpa using he
    have NO := Lib.hid (NO hr)
    have AL := Lib.hid (AL hr)
    rw [hr] at rc
    have RC := Lib.hid rc
    clear rc hr he
    rcases hs with ⟨rfl, rfl, rfl⟩ | ⟨rfl, rfl, rfl⟩
    all_goals
      go_enter Tryd.func6, Tryd.ntmps6
      go_wp2_with (first
      | (go_at_call 11; (with_reducible refine (AW.out _ C0.out.b).mono ?_); rintro e w1 ⟨rfl, hb⟩; have c := CB.then C0.out hb; have cc0 := kb_cell c.r (i := 0) rfl; have cc1 := kb_cell c.r (i := 1) rfl; have C0 := Lib.hid c; clear c hb)
      | (go_at_call 14; (with_reducible refine (CX.out _ C0.out.b).mono ?_); rintro e w1 ⟨rfl, hb⟩; have c := CB.then C0.out hb; have cc0 := kb_cell c.r (i := 0) rfl; have cc1 := kb_cell c.r (i := 1) rfl; have C0 := Lib.hid c; clear c hb)
      | (go_at_call 14; (with_reducible refine (CY.out _ C0.out.b).mono ?_); rintro e w1 ⟨rfl, hb⟩; have c := CB.then C0.out hb; have cc0 := kb_cell c.r (i := 0) rfl; have cc1 := kb_cell c.r (i := 1) rfl; have C0 := Lib.hid c; clear c hb)
      | (go_at_call 15; (with_reducible refine (EX.out _ C0.out.b).mono ?_); rintro e w1 ⟨rfl, hb⟩; have c := CB.then C0.out hb; have cc0 := kb_cell c.r (i := 0) rfl; have cc1 := kb_cell c.r (i := 1) rfl; have C0 := Lib.hid c; clear c hb)
      | (go_at_call 15; (with_reducible refine (EY.out _ C0.out.b).mono ?_); rintro e w1 ⟨rfl, hb⟩; have c := CB.then C0.out hb; have cc0 := kb_cell c.r (i := 0) rfl; have cc1 := kb_cell c.r (i := 1) rfl; have C0 := Lib.hid c; clear c hb)
      | (go_at_call 13; (with_reducible refine (RC.out _ C0.out.b).mono ?_); rintro e w1 ⟨rfl, hb⟩; have c := CB.then C0.out hb; have cc0 := kb_cell c.r (i := 0) rfl; have cc1 := kb_cell c.r (i := 1) rfl; have C0 := Lib.hid c; clear c hb)
      | (go_at_call 15; (with_reducible refine (NO.out _ C0.out.b).mono ?_); rintro e w1 ⟨rfl, hb⟩; have c := CB.then C0.out hb; have cc0 := kb_cell c.r (i := 0) rfl; have cc1 := kb_cell c.r (i := 1) rfl; have C0 := Lib.hid c; clear c hb)
      | (go_at_call 15; (with_reducible refine (AL.out _ C0.out.b).mono ?_); rintro e w1 ⟨rfl, hb⟩; have c := CB.then C0.out hb; have cc0 := kb_cell c.r (i := 0) rfl; have cc1 := kb_cell c.r (i := 1) rfl; have C0 := Lib.hid c; clear c hb))
      go_ret
      exact ⟨rfl, by first | exact C0.out.b | exact bl_drewN C0.out.b _⟩
  · have k1 : (f == 0) = false := by simpa using hf
    have k2 : decide (a < 0) = false := decide_eq_false (by omega)
    have k3 : decide ((d.length : Int) < a) = false := decide_eq_false (by omega)
    have k4 : decide (k < 0) = false := decide_eq_false (by omega)
    have k5 : decide ((d.length : Int) < k) = false := decide_eq_false (by omega)
    have NO := Lib.hid (NO hr)
    have AL := Lib.hid (AL hr)
    rw [hr] at rc
    have RC := Lib.hid rc
    clear rc hr hf ha ha' hk hk'
    rcases hs with ⟨rfl, rfl, rfl⟩ | ⟨rfl, rfl, rfl⟩
    all_goals
      go_enter Tryd.func6, Tryd.ntmps6
      go_wp2_with (first
      | (go_at_call 11; (with_reducible refine (AW.out _ C0.out.b).mono ?_); rintro e w1 ⟨rfl, hb⟩; have c := CB.then C0.out hb; have cc0 := kb_cell c.r (i := 0) rfl; have cc1 := kb_cell c.r (i := 1) rfl; have C0 := Lib.hid c; clear c hb)
      | (go_at_call 14; (with_reducible refine (CX.out _ C0.out.b).mono ?_); rintro e w1 ⟨rfl, hb⟩; have c := CB.then C0.out hb; have cc0 := kb_cell c.r (i := 0) rfl; have cc1 := kb_cell c.r (i := 1) rfl; have C0 := Lib.hid c; clear c hb)
      | (go_at_call 14; (with_reducible refine (CY.out _ C0.out.b).mono ?_); rintro e w1 ⟨rfl, hb⟩; have c := CB.then C0.out hb; have cc0 := kb_cell c.r (i := 0) rfl; have cc1 := kb_cell c.r (i := 1) rfl; have C0 := Lib.hid c; clear c hb)
      | (go_at_call 15; (with_reducible refine (EX.out _ C0.out.b).mono ?_); rintro e w1 ⟨rfl, hb⟩; have c := CB.then C0.out hb; have cc0 := kb_cell c.r (i := 0) rfl; have cc1 := kb_cell c.r (i := 1) rfl; have C0 := Lib.hid c; clear c hb)
      | (go_at_call 15; (with_reducible refine (EY.out _ C0.out.b).mono ?_); rintro e w1 ⟨rfl, hb⟩; have c := CB.then C0.out hb; have cc0 := kb_cell c.r (i := 0) rfl; have cc1 := kb_cell c.r (i := 1) rfl; have C0 := Lib.hid c; clear c hb)
      | (go_at_call 13; (with_reducible refine (RC.out _ C0.out.b).mono ?_); rintro e w1 ⟨rfl, hb⟩; have c := CB.then C0.out hb; have cc0 := kb_cell c.r (i := 0) rfl; have cc1 := kb_cell c.r (i := 1) rfl; have C0 := Lib.hid c; clear c hb)
      | (go_at_call 15; (with_reducible refine (NO.out _ C0.out.b).mono ?_); rintro e w1 ⟨rfl, hb⟩; have c := CB.then C0.out hb; have cc0 := kb_cell c.r (i := 0) rfl; have cc1 := kb_cell c.r (i := 1) rfl; have C0 := Lib.hid c; clear c hb)
      | (go_at_call 15; (with_reducible refine (AL.out _ C0.out.b).mono ?_); rintro e w1 ⟨rfl, hb⟩; have c := CB.then C0.out hb; have cc0 := kb_cell c.r (i := 0) rfl; have cc1 := kb_cell c.r (i := 1) rfl; have C0 := Lib.hid c; clear c hb))
      go_ret
      exact ⟨rfl, by first | exact C0.out.b | exact bl_drewN C0.out.b _⟩
  · have k2 : decide (a < 0) = false := decide_eq_false (by omega)
    have k3 : decide ((d.length : Int) < a) = false := decide_eq_false (by omega)
    have k4 : decide (k < 0) = false := decide_eq_false (by omega)
    have k5 : decide ((d.length : Int) < k) = false := decide_eq_false (by omega)
    have k6 : decide (b < a) = false := decide_eq_false (by omega)
    have k7 : decide (l < k) = false := decide_eq_false (by omega)
    have NO := Lib.hid (NO hr)
    have AL := Lib.hid (AL hr)
    rw [hr] at rc
    have RC := Lib.hid rc
    clear rc hr ha ha' hk hk' hab hkl
    rcases hs with ⟨rfl, rfl, rfl⟩ | ⟨rfl, rfl, rfl⟩
    all_goals
      go_enter Tryd.func6, Tryd.ntmps6
      go_wp2_with (first
      | (go_at_call 11; (with_reducible refine (AW.out _ C0.out.b).mono ?_); rintro e w1 ⟨rfl, hb⟩; have c := CB.then C0.out hb; have cc0 := kb_cell c.r (i := 0) rfl; have cc1 := kb_cell c.r (i := 1) rfl; have C0 := Lib.hid c; clear c hb)
      | (go_at_call 14; (with_reducible refine (CX.out _ C0.out.b).mono ?_); rintro e w1 ⟨rfl, hb⟩; have c := CB.then C0.out hb; have cc0 := kb_cell c.r (i := 0) rfl; have cc1 := kb_cell c.r (i := 1) rfl; have C0 := Lib.hid c; clear c hb)
      | (go_at_call 14; (with_reducible refine (CY.out _ C0.out.b).mono ?_); rintro e w1 ⟨rfl, hb⟩; have c := CB.then C0.out hb; have cc0 := kb_cell c.r (i := 0) rfl; have cc1 := kb_cell c.r (i := 1) rfl; have C0 := Lib.hid c; clear c hb)
      | (go_at_call 15; (with_reducible refine (EX.out _ C0.out.b).mono ?_); rintro e w1 ⟨rfl, hb⟩; have c := CB.then C0.out hb; have cc0 := kb_cell c.r (i := 0) rfl; have cc1 := kb_cell c.r (i := 1) rfl; have C0 := Lib.hid c; clear c hb)
      | (go_at_call 15; (with_reducible refine (EY.out _ C0.out.b).mono ?_); rintro e w1 ⟨rfl, hb⟩; have c := CB.then C0.out hb; have cc0 := kb_cell c.r (i := 0) rfl; have cc1 := kb_cell c.r (i := 1) rfl; have C0 := Lib.hid c; clear c hb)
      | (go_at_call 13; (with_reducible refine (RC.out _ C0.out.b).mono ?_); rintro e w1 ⟨rfl, hb⟩; have c := CB.then C0.out hb; have cc0 := kb_cell c.r (i := 0) rfl; have cc1 := kb_cell c.r (i := 1) rfl; have C0 := Lib.hid c; clear c hb)
      | (go_at_call 15; (with_reducible refine (NO.out _ C0.out.b).mono ?_); rintro e w1 ⟨rfl, hb⟩; have c := CB.then C0.out hb; have cc0 := kb_cell c.r (i := 0) rfl; have cc1 := kb_cell c.r (i := 1) rfl; have C0 := Lib.hid c; clear c hb)
      | (go_at_call 15; (with_reducible refine (AL.out _ C0.out.b).mono ?_); rintro e w1 ⟨rfl, hb⟩; have c := CB.then C0.out hb; have cc0 := kb_cell c.r (i := 0) rfl; have cc1 := kb_cell c.r (i := 1) rfl; have C0 := Lib.hid c; clear c hb))
      go_ret
      exact ⟨rfl, by first | exact C0.out.b | exact bl_drewN C0.out.b _⟩
theorem sturmRises_x {W : World} (A B : Option Addr) (cA cB : Nat) (d o : List Nat) (x y x1 y1 : Nat) (t : Bool) (hA : d.length ≤ cA) (hB : o.length ≤ cB) (hd : Fl W A d) (ho : Fl W B o) (wd : ∀ x ∈ d, W64 x) (wo : ∀ x ∈ o, W64 x) (h1 : W64 x1) (h2 : W64 y1) (hT : Tab W)
    (ht : (FloatKind.f64.format.order x y == some .gt) = t) (hs : (t = true ∧ x1 = y ∧ y1 = x) ∨ (t = false ∧ x1 = x ∧ y1 = y)) (hp : rg x1 ≤ 6867989431740006400 → rg y1 ≤ 6867989431740006400 → plc x1 ≤ plc y1) :
    Calls Tryd.prog 6 #[.agg #[.slice A d.length cA, .slice B o.length cB], .float .f64 x, .float .f64 y] W fun e w' => e = .returned (.bool true) ∧ Below W.heap.size W w' := by
  have zT : atW 6867989431740006400 = 6867989431740006400 := by decide
  have zN : atW (-6867989431740006400) = 16091361468594782208 := by decide
  refine sturmRises_w A B cA cB d o x y x1 y1 _ _ _ _ _ _ t hd ho wd wo hT ht hs (rf_of A B cA cB d o hA hB hd ho wd wo hT h1 h2) ?_ ?_ ?_
  · intro hr w h
    have := exact_c A B cA cB d o 16091361468594782208 w (hd.below h) (ho.below h) hA hB wd wo (w_const (by decide)) (hT.below h)
    have e := found (d := d) (o := o) (p := -6867989431740006400) hr (by decide) (by decide)
    rw [(cnt_ends hr).1, zN] at e
    rw [e.1, e.2] at this
    exact this
  · intro hr w h
    have := exact_c A B cA cB d o 6867989431740006400 w (hd.below h) (ho.below h) hA hB wd wo (w_const (by decide)) (hT.below h)
    have e := found (d := d) (o := o) (p := 6867989431740006400) hr (by decide) (by decide)
    rw [(cnt_ends hr).2, zT] at e
    rw [e.1, e.2] at this
    exact this
  · cases hr : rightB d o
    · refine Or.inl ⟨rfl, ?_, ?_, ?_, ?_, ?_, ?_⟩ <;> simp [wrongE, countN, exactN, hr]
    · right
      by_cases he : wrongE d o x1 = 0
      · right
        have r1 := count_rg he
        by_cases hf : wrongE d o y1 = 0
        · right
          have := count_up wd wo h1 h2 he hf (hp (wrong_zero he).2 (wrong_zero hf).2)
          exact ⟨rfl, he, hf, r1.1, r1.2.1, r1.2.2.1, r1.2.2.2, this.1, this.2⟩
        · left
          exact ⟨rfl, he, hf, r1.1, r1.2.1, r1.2.2.1, r1.2.2.2⟩
      · left
        exact ⟨rfl, he⟩
theorem sturmRises_c {W : World} (A B : Option Addr) (cA cB : Nat) (d o : List Nat) (x y : Nat) (hA : d.length ≤ cA) (hB : o.length ≤ cB) (hd : Fl W A d) (ho : Fl W B o) (wd : ∀ x ∈ d, W64 x) (wo : ∀ x ∈ o, W64 x) (hx : W64 x) (hy : W64 y) (hT : Tab W) :
    Calls Tryd.prog 6 #[.agg #[.slice A d.length cA, .slice B o.length cB], .float .f64 x, .float .f64 y] W fun e w' => e = .returned (.bool true) ∧ Below W.heap.size W w' := by
  have tg := t_gt hx hy
  cases ht : (FloatKind.f64.format.order x y == some .gt)
  · refine sturmRises_x A B cA cB d o x y x y false hA hB hd ho wd wo hx hy hT ht (Or.inr ⟨rfl, rfl, rfl⟩) (fun h1 h2 => ?_)
    rw [ht, isn_eq, isn_eq, decide_eq_false (by omega), decide_eq_false (by omega)] at tg
    have := of_decide_eq_false (by simpa using tg.symm : decide (plc y < plc x) = false)
    omega
  · refine sturmRises_x A B cA cB d o x y y x true hA hB hd ho wd wo hy hx hT ht (Or.inl ⟨rfl, rfl, rfl⟩) (fun h1 h2 => ?_)
    rw [ht] at tg
    simp only [Bool.and_eq_true, decide_eq_true_eq, Bool.true_eq] at tg
    have := tg.2
    omega
end Go.Proofs.YtfjiojdnbdfenaaDoor


/- The frame of the rows of this seat: the one listed variable (math/bits' table) as cells; a start that fits. -/
namespace Go.Proofs.YtfjiojdnbdfenaaDoor
open Go Go.ChangeShapes Go.WideShapes Go.RowKit GFl
set_option maxRecDepth 100000

theorem Tryd.own : ownKnob Tryd.prog.godebug = none := by kernel_rfl
theorem w64_of {x : Nat} (h : (Lit.float .f64 x).wf = true) : W64 x := W64.mk (by simpa [Lit.wf] using h)
theorem i64_of {x : Int} (h : (Lit.int .i64 x).wf = true) : -9223372036854775808 ≤ x ∧ x ≤ 9223372036854775807 := by simpa [Lit.wf, IntKind.min, IntKind.max, IntKind.signed, IntKind.bits] using h
theorem no_standIn {ps : Array TypeId} {fn : Func} (h : fn.params = ps) (hall : (ps.toList.all fun t => !Tryd.prog.wantsStandIn t) = true) : ∀ (j : Nat) (t : TypeId), fn.params[j]? = some t → Tryd.prog.wantsStandIn t = false := by
  intro j t ht
  rw [h] at ht
  have hm : t ∈ ps.toList := by rw [Array.mem_toList_iff]; exact Array.mem_of_getElem? ht
  have := List.all_eq_true.1 hall t hm
  simpa using this
def tabZs : List Int := Lib.deBruijn64tab.map fun (n : Nat) => (n : Int)
def laidL : List (String × DataW Unit) := [("math/bits.deBruijn64tab", Rows.laid_math_bits_deBruijn64tab)]
theorem laidL_eq : laidL = ("math/bits.deBruijn64tab", Lib.tabData .u8 tabZs) :: [] := by kernel_rfl
theorem tab_named : Tryd.prog.globalNamed "math/bits.deBruijn64tab" = some 1 := by kernel_rfl
theorem tab_type : (Tryd.prog.globals[1]?).map (·.type) = some 114 := by kernel_rfl
theorem tab_of_laid {W : World} (h : laidMet Tryd.prog laidL W) : Tab W := by
  rw [laidL_eq] at h
  have ht := Lib.tabIs_of_head tab_named tab_type Tryd.underlying114 Tryd.underlying5 (by kernel_rfl) (by kernel_rfl) h
  intro j hj
  have hc := ht.cell tab_named j (by simpa [tabZs] using hj)
  rw [hc]
  congr 2
  simp [tabZs, List.getD, hj]

def tabCells : Array Value := (tabZs.map fun z => Value.int .u8 z).toArray
noncomputable def laidWorld (os : Os) : World :=
  { World.holding Tryd.prog os ⟨#[], #[], []⟩ with heap := (World.holding Tryd.prog os ⟨#[], #[], []⟩).heap.modify 1 fun
      | .cells _ t frozen => .cells tabCells t frozen
      | o => o }
theorem laidWorld_row (os : Os) (args : Array Value) : ((laidWorld os).forCall (fun _ _ => 0) ⟨#[], args, []⟩).memory.heap[1]? = some (.cells tabCells 114 (0, 0)) := by kernel_rfl
theorem tab_places : ((MemPlace.row ⟨1, 0, none⟩ tabCells.size ++ ([] : List MemPlace) ++ []).Nodup) := by decide
theorem laidWorld_met (os : Os) (args : Array Value) : laidMet Tryd.prog laidL ((laidWorld os).forCall (fun _ _ => 0) ⟨#[], args, []⟩).memory := by
  refine ⟨_, ⟨1, 114, tabCells, 8, [], [], by kernel_rfl, by kernel_rfl, by kernel_rfl, by kernel_rfl, rfl, rfl⟩, tab_places, fun b off h => ?_⟩
  have h' : MemPlace.cell b off ∈ (MemPlace.row ⟨1, 0, none⟩ tabCells.size : List MemPlace) := by simpa using h
  have hall : (MemPlace.row ⟨1, 0, none⟩ tabCells.size : List MemPlace).all (fun p => match p with | .cell b _ => b == 1 | _ => false) = true := by decide
  have hb := List.all_eq_true.1 hall _ h'
  obtain rfl : b = 1 := by simpa using hb
  refine ⟨⟨_, _, laidWorld_row os args⟩, fun u v hc => ?_⟩
  exfalso
  simp only [World.cell?, laidWorld_row os args] at hc
  have hc' : tabCells[off]? = some (.iface u v) := by simpa using hc
  unfold tabCells at hc'
  simp at hc'
end Go.Proofs.YtfjiojdnbdfenaaDoor


/- Lists of floats, chains and lists of small numbers as arguments of a row: opened. -/
namespace Go.Proofs.YtfjiojdnbdfenaaDoor
open Go Go.ChangeShapes Go.WideShapes Go.RowKit Go.Deep GFl
open Go.Proofs.YtfjiojdnbdfenaaDoorW.PrintWords (Kd)
set_option maxRecDepth 100000

theorem jk_laidOut : laidOutB Tryd.prog = true := by kernel_rfl
theorem rs_rec1 : Tryd.prog.readableRec 22 = true := by kernel_rfl
theorem rs_row1 : (22 : TypeId) < Tryd.prog.types.size := of_decide_eq_true (by kernel_rfl)
theorem rs_rec2 : Tryd.prog.readableRec 24 = true := by kernel_rfl
theorem rs_row2 : (24 : TypeId) < Tryd.prog.types.size := of_decide_eq_true (by kernel_rfl)
theorem rs_cf : Tryd.prog.cellsOf 25 = 1 := by kernel_rfl
theorem rs_cc : Tryd.prog.cellsOf 24 = 2 := by kernel_rfl
theorem rs_cs : Tryd.prog.cellsOf 22 = 1 := by kernel_rfl
theorem list_of {α : Type} {p : Nat → α → Prop} : ∀ n, (∀ i, i < n → ∃ j, p i j) → ∃ l : List α, l.length = n ∧ ∀ i j, l[i]? = some j → p i j
  | 0, _ => ⟨[], rfl, fun i j h => by simp at h⟩
  | n + 1, h => by
    obtain ⟨l, hl, hp⟩ := list_of n (fun i hi => h i (by omega))
    obtain ⟨j, hj⟩ := h n (by omega)
    refine ⟨l ++ [j], by simp [hl], fun i x hx => ?_⟩
    rcases Nat.lt_or_ge i l.length with hi | hi
    · rw [List.getElem?_append_left hi] at hx; exact hp i x hx
    · rw [List.getElem?_append_right hi] at hx
      have e : i - l.length = 0 := by
        have := (List.getElem?_eq_some_iff.1 hx).1
        simp at this; omega
      rw [e] at hx
      have : x = j := by simpa using hx.symm
      subst this
      have : i = n := by omega
      subst this; exact hj
section
variable {H : Type} {enc : TypeId × Value → H} {P : Program} {w : World} {base : Nat} {spare : Nat → Bool} {held : Bool}
theorem trod_flt {k : FloatKind} {t : TypeId} {fuel : Nat} {cs : List Value} {x : DataW H × List MemPlace} (ht : P.underlying t = some (.float k)) (h : DataW.trod enc P w base spare held fuel t cs = some x) : ∃ n, cs = [.float k n] ∧ (Lit.float k n).wf = true := by
  cases fuel with
  | zero => simp [DataW.trod] at h
  | succ n =>
    unfold DataW.trod at h
    rw [ht] at h
    split at h <;> simp_all
end
section
variable {H : Type} {enc : TypeId × Value → H} {w : World} {base : Nat} {spare : Nat → Bool} {held : Bool}
theorem open_fls {fuel : Nat} {c : Value} {x : DataW H × List MemPlace} (h : DataW.trod enc Tryd.prog w base spare held fuel 22 [c] = some x) :
    ∃ (A : Option Addr) (cap : Nat) (l : List Nat), c = .slice A l.length cap ∧ l.length ≤ cap ∧ Fl w A l ∧ (∀ y ∈ l, W64 y) ∧ (A = none → cap = 0 ∧ l = []) := by
  rcases open_slice1 Tryd.underlying22 rs_cf h with ⟨hc, _⟩ | ⟨ad, len, cap, m, n, V, D, Pl, hc, hb, hl, hm, hmm, _, hi⟩
  · have hc : c = .slice none 0 0 := by simpa using hc
    subst hc
    exact ⟨none, 0, [], rfl, Nat.le_refl _, Fl.mk (by simp) (fun h => by simp at h), fun y hy => (by cases hy), fun _ => ⟨rfl, rfl⟩⟩
  · have hc : c = .slice (some ad) len cap := by simpa using hc
    subst hc
    have hlm : len ≤ m := by rw [hmm]; split <;> omega
    obtain ⟨l, hll, hp⟩ := list_of (p := fun i y => w.cell? (ad.add i) = some (.float .f64 y) ∧ W64 y) len (fun i hil => by
      obtain ⟨hc, ht⟩ := hi i (by omega)
      obtain ⟨y, he, hw⟩ := trod_flt Tryd.underlying25 ht
      have he : V i = .float .f64 y := by simpa using he
      exact ⟨y, by rw [hc, he], w64_of hw⟩)
    subst hll
    have hmx : cap ≤ 9223372036854775807 := hm
    refine ⟨some ad, cap, l, rfl, hl, Fl.mk (by omega) (fun _ => ⟨ad, rfl, fun i hi => (hp i _ (List.getElem?_eq_getElem hi)).1⟩), fun y hy => ?_, fun h => by cases h⟩
    obtain ⟨i, hi1, rfl⟩ := List.getElem_of_mem hy
    exact (hp i _ (List.getElem?_eq_getElem hi1)).2
theorem open_reals {r : Reach} {b0 : Nat} {v : Value} {d : DataW H} {p : List MemPlace} (hv : Value.okWide Tryd.prog w r b0 22 v) (h : DataW.Trod enc Tryd.prog w base spare held 22 v d p) :
    ∃ (A : Option Addr) (cap : Nat) (l : List Nat), v = .slice A l.length cap ∧ l.length ≤ cap ∧ Fl w A l ∧ (∀ y ∈ l, W64 y) ∧ (A = none → cap = 0 ∧ l = []) := by
  obtain ⟨a, len, cap, rfl⟩ := okWide_slice Tryd.underlying22 hv
  obtain ⟨fuel, hf⟩ := h
  exact open_fls hf
theorem open_chain {r : Reach} {b0 : Nat} {v : Value} {d : DataW H} {p : List MemPlace} (hv : Value.okWide Tryd.prog w r b0 24 v) (h : DataW.Trod enc Tryd.prog w base spare held 24 v d p) :
    ∃ (A B : Option Addr) (cA cB : Nat) (l m : List Nat), v = .agg #[.slice A l.length cA, .slice B m.length cB] ∧ l.length ≤ cA ∧ m.length ≤ cB ∧ Fl w A l ∧ Fl w B m ∧ (∀ y ∈ l, W64 y) ∧ (∀ y ∈ m, W64 y) ∧ (A = none → cA = 0 ∧ l = []) ∧ (B = none → cB = 0 ∧ m = []) := by
  obtain ⟨cs, rfl, _⟩ := okWide_struct Tryd.underlying24 hv
  obtain ⟨fuel, h⟩ := h
  obtain ⟨xs, n, _, hx, hlen, hxl, hf⟩ := DataW.trod_struct Tryd.underlying24 h
  rw [rs_cc] at hlen
  obtain ⟨cs⟩ := cs
  change cs.length = 2 at hlen
  match cs, hlen with
  | [c0, c1], _ =>
    have h0 := hf 0 _ rfl
    have h1 := hf 1 _ rfl
    have hs : xs.length = 2 := hxl
    have g0 : DataW.trod enc Tryd.prog w base spare held n 22 [c0] = xs[0]? := h0
    have g1 : DataW.trod enc Tryd.prog w base spare held n 22 [c1] = xs[1]? := h1
    rw [List.getElem?_eq_getElem (by omega)] at g0 g1
    obtain ⟨A, cA, l, rfl, j1, j2, j3, j4⟩ := open_fls g0
    obtain ⟨B, cB, m, rfl, k1, k2, k3, k4⟩ := open_fls g1
    exact ⟨A, B, cA, cB, l, m, rfl, j1, k1, j2, k2, j3, k3, j4, k4⟩
end
end Go.Proofs.YtfjiojdnbdfenaaDoor


/- girder/girderlaw17.SturmRises answers true for every input, and leaves each argument as it was: the table of math/bits is tied to the program's text.
 Conditions: none of its own. -/
namespace Go.Proofs.YtfjiojdnbdfenaaDoor
open Go Go.ChangeShapes Go.WideShapes Go.RowKit GFl

set_option maxRecDepth 100000 in
theorem sturmRises_lifted (os : Os) (started : os.Started) (H : Type) (enc : TypeId × Value → H) :
    ReturnsInHanded {} Tryd.checked os 6 .any (fun w args => (Rows.sturmRisesSpec.pre enc Tryd.prog Tryd.f6 [] false w args ∧ laidMet Tryd.prog laidL w) ∧ sizedMet enc Tryd.prog Tryd.f6 (OpenSpec.ofChange Rows.sturmRisesSpec) false w args) (Rows.sturmRisesSpec.post enc Tryd.prog Tryd.f6 false true false false) := by
  refine returnsInHanded_of_change_and (C := Tryd.checked) (X := fun w _ => laidMet Tryd.prog laidL w) (fun _ _ _ hh h => h.of_heap hh) Tryd.own started (by kernel_rfl) Tryd.func6
    (ChangeSpec.witness_at (enc := enc) (C := Tryd.checked) (os := os) (X := fun w _ => laidMet Tryd.prog laidL w) false (laidWorld os) #[.agg #[.slice none 0 0, .slice none 0 0], .float .f64 0, .float .f64 0] 8 rfl (by kernel_rfl) (by kernel_rfl) (by kernel_rfl) (by kernel_rfl) (by kernel_rfl) (laidWorld_met os _)) ?_
  intro W base args ds gs before hval0 hW _ hsz hL _
  have hval : ∀ (j : Nat) t v, Tryd.f6.params[j]? = some t → args[j]? = some v → Value.okWide Tryd.prog W .any base t v := hval0
  have hW' := hW
  obtain ⟨p, q, hA0, hV0, rfl, hfz, hnd⟩ := hW
  have hA : DataW.TrodAll enc Tryd.prog W 0 (fun _ => true) true Tryd.f6.params.toList args.toList ds p := hA0
  have hV : DataW.TrodVars enc Tryd.prog W (fun _ => true) [] gs q := hV0
  rw [Tryd.params6] at hA hval
  obtain ⟨v0, v1, v2, d0, d1, d2, p0, p1, p2, rfl, rfl, rfl, h0, h1, h2⟩ := trodAll_three hA
  have k0 := h0
  have lt0 : ∀ x ∈ p0, x.block < W.heap.size := by obtain ⟨m, hm⟩ := h0; exact DataW.trod_lt m _ _ _ hm
  obtain ⟨A0, B0, cA0, cB0, l0, m0, rfl, hl0, hm0, hC0, hD0, wl0, wm0, hN0, hM0⟩ := open_chain (hval 0 24 v0 rfl rfl) h0
  obtain ⟨x1, rfl, rfl, rfl, wx1⟩ := open_float Tryd.underlying25 (hval 1 25 v1 rfl rfl) h1
  obtain ⟨x2, rfl, rfl, rfl, wx2⟩ := open_float Tryd.underlying25 (hval 2 25 v2 rfl rfl) h2
  obtain ⟨rfl, rfl⟩ : gs = [] ∧ q = [] := by
    cases gs with
    | nil => exact ⟨rfl, hV⟩
    | cons g r => exact absurd hV (by intro h; cases h)
  have e1 : Rows.sturmRisesSpec.fn H ([d0, .lit (.float .f64 x1), .lit (.float .f64 x2)] ++ []) = { results := [.lit (.bool true)], args := [d0, .lit (.float .f64 x1), .lit (.float .f64 x2)] } := by simp [Rows.sturmRisesSpec]
  refine (sturmRises_c (W := W) A0 B0 cA0 cB0 l0 m0 x1 x2 hl0 hm0 hC0 hD0 wl0 wm0 (w64_of wx1) (w64_of wx2) (tab_of_laid hL)).mono fun e W' ⟨he, hb⟩ => ?_
  subst he
  refine ⟨_, rfl, _, _, _, [], p0 ++ ([] ++ ([])), [], hW', ?_, ?_, ?_, hb.frame _, fun h => by cases h⟩
  · rw [e1]; exact trodAll_mk1 (shut_bool Tryd.underlying4 true)
  · rw [e1]; exact trodAll_mk3 (Below.trod jk_laidOut rs_rec2 rs_row2 k0 hb lt0) (shut_float Tryd.underlying25 wx1) (shut_float Tryd.underlying25 wx2)
  · rw [e1]; rfl

theorem sturmRises_holds : Rows.SturmRisesSaid :=
  OpenClaim.holds_of_wide 6 Tryd.f6 rfl rfl rfl rfl rfl rfl rfl ⟨rfl, rfl, rfl, rfl, rfl⟩ rfl rfl rfl rfl rfl (by kernel_rfl) Tryd.func6 (by kernel_rfl)
    (of_decide_eq_true (by kernel_rfl)) (by unfold Func.isWrapper; rw [if_neg (of_decide_eq_false (by kernel_rfl))]; exact ⟨rfl, rfl⟩)
    (fun os started H enc _ => sturmRises_lifted os started H enc)

theorem sturmRises_card_holds : Rows.SturmRisesCardSaid :=
  Claim7.holds_tied_plain_at .later [] [.data] true Rows.sturmRisesCard.stood.harness false
    sturmRises_holds (fun _ h => by cases h) (by kernel_rfl) (fun _ h => by cases h) sturmRises_row_tie rfl ⟨rfl, rfl⟩ (by kernel_rfl) rfl
    (fun f fn hf hfn => by
      obtain rfl : f = 6 := Option.some.inj ((show Tryd.prog.funcNamed "girder/girderlaw17.SturmRises" = some 6 by kernel_rfl).symm.trans hf) |>.symm
      obtain rfl : fn = Tryd.f6 := (Option.some.inj (Tryd.func6.symm.trans hfn)).symm
      exact ⟨by kernel_rfl, no_standIn Tryd.params6 (by kernel_rfl)⟩)
    (by kernel_rfl)
#print axioms sturmRises_card_holds
end Go.Proofs.YtfjiojdnbdfenaaDoor

