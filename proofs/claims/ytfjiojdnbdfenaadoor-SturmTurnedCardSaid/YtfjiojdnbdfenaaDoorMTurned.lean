import Derived.Test.YtfjiojdnbdfenaaDoorMe
import Derived.Test.YtfjiojdnbdfenaaDoorMf
import Derived.Test.YtfjiojdnbdfenaaDoorMd
import Derived.Test.YtfjiojdnbdfenaaDoorMb
import Derived.Deep.RegionHeld3
import Derived.Deep.DeepCutAuto
import Derived.Deep.CutBlock
import Derived.BigQuiet
import Derived.Test.YtfjiojdnbdfenaaDoorMc
import Derived.ProofKit
import Derived.Lib.LaidTab
import Derived.SevenTiedAt
import Derived.JoinedOf
import Derived.ChangeSame
import Derived.ChangeVars
import Derived.Deep.Slices
import Derived.Deep.Fields
import Derived.Carry
import Derived.ChangeSlices
import Derived.Test.YtfjiojdnbdfenaaDoorCards
import Derived.Test.YtfjiojdnbdfenaaDoorTie
/- What Find answers stands between the counts (plain). -/
namespace Go.Proofs.YtfjiojdnbdfenaaDoor
open Go Nv GFl
set_option maxRecDepth 100000


theorem atW_p {p : Int} (h1 : -6867989431740006400 ≤ p) (h2 : p ≤ 6867989431740006400) : plc (atW p) = p ∧ isn (atW p) = false ∧ placeF (atW p) = p := by
  obtain ⟨e1, e2, e3⟩ := atW_r h1 h2
  have hn : neg (atW p) = decide (p < 0) := by unfold atW; exact wd_neg (by omega)
  have h3 : plc (atW p) = p := by rw [plc_eq, hn, e1]; simp only [decide_eq_true_eq]; split <;> omega
  have h4 : isn (atW p) = false := by rw [isn_eq]; simp; omega
  refine ⟨h3, h4, ?_⟩
  unfold placeF
  rw [h4, h3]; rfl
theorem val_mono {x y : Nat} (h : plc x ≤ plc y) : val x ≤ val y := by
  rw [plc_eq, plc_eq] at h
  rw [val_eq', val_eq']
  have m1 : rg x ≤ rg y → mg B52 (rg x) ≤ mg B52 (rg y) := fun h => mg_mono B52_pos h
  have m2 : rg y ≤ rg x → mg B52 (rg y) ≤ mg B52 (rg x) := fun h => mg_mono B52_pos h
  have z1 : rg x = 0 → mg B52 (rg x) = 0 := fun h => by rw [h]; exact mg_zero _ B52_pos
  have z2 : rg y = 0 → mg B52 (rg y) = 0 := fun h => by rw [h]; exact mg_zero _ B52_pos
  generalize mg B52 (rg x) = a at *
  generalize mg B52 (rg y) = b at *
  cases hx : neg x <;> cases hy : neg y <;> simp only [hx, hy, if_true, if_false, Bool.false_eq_true] at h ⊢ <;> omega
theorem hlv_inv (T : Int → Bool) : ∀ (n : Nat) (a b : Int), a < b → b - a ≤ 2 ^ n → T a = false → T b = true → a ≤ (hlv T n a b).1 ∧ (hlv T n a b).2 = (hlv T n a b).1 + 1 ∧ (hlv T n a b).2 ≤ b ∧ T (hlv T n a b).1 = false ∧ T (hlv T n a b).2 = true := by
  intro n
  induction n with
  | zero =>
    intro a b h1 h2 ha hb
    simp at h2
    obtain rfl : b = a + 1 := by omega
    exact ⟨Int.le_refl _, rfl, Int.le_refl _, ha, hb⟩
  | succ n ih =>
    intro a b h1 h2 ha hb
    rw [Int.pow_succ] at h2
    generalize hp : (2 : Int) ^ n = p at *
    unfold hlv
    by_cases hg : 1 < b - a
    · rw [if_pos hg]
      cases hm : T (a + (b - a) / 2)
      · rw [if_neg (by simp)]
        have := ih (a + (b - a) / 2) b (by omega) (by omega) hm hb
        exact ⟨by omega, this.2.1, this.2.2.1, this.2.2.2⟩
      · rw [if_pos rfl]
        have := ih a (a + (b - a) / 2) (by omega) (by omega) ha hm
        exact ⟨this.1, this.2.1, by omega, this.2.2.2⟩
    · rw [if_neg hg]
      obtain rfl : b = a + 1 := by omega
      exact ⟨Int.le_refl _, rfl, Int.le_refl _, ha, hb⟩
theorem two64 : (2 : Int) ^ 64 = 18446744073709551616 := by decide
theorem val_cf {x : Nat} (h : rg x ≤ 6858982232485265408) : -(p2 1574 : Int) ≤ val x ∧ val x ≤ (p2 1574 : Int) := by
  have h1 := mg_mono (B := B52) B52_pos h
  rw [mg500] at h1
  have := natAbs_val x
  generalize mg B52 (rg x) = m at *
  generalize p2 1574 = q at *
  omega
theorem p2_pos (n : Nat) : 0 < p2 n := by rw [p2_def]; exact Nat.two_pow_pos n
theorem p2_1576 : p2 1576 = 4 * p2 1574 := by rw [show 1576 = 1574 + 1 + 1 from rfl, p2_suc, p2_suc]; omega
theorem mg_top : mg B52 6867989431740006400 = p2 1576 := by
  have : (6867989431740006400 : Nat) = 1525 * B52 + 0 := by decide
  rw [this, mg_B 1525 0 (by decide) (by decide)]
  have e : B52 + 0 = p2 52 := by rw [p2_def]
  rw [e, ← p2_add]
theorem val_top : val (atW 6867989431740006400) = (4 * (p2 1574 : Int)) ∧ val (atW (-6867989431740006400)) = -(4 * (p2 1574 : Int)) := by
  have e1 : atW 6867989431740006400 = wd false 6867989431740006400 := by decide
  have e2 : atW (-6867989431740006400) = wd true 6867989431740006400 := by decide
  rw [e1, e2, val_wd (by decide), val_wd (by decide), mg_top, p2_1576]
  simp
theorem cnt_ends {d o : List Nat} (hr : rightB d o = true) : St.cnt (val (atW (-6867989431740006400))) (d.map val) (o.map val) = 0 ∧ St.cnt (val (atW 6867989431740006400)) (d.map val) (o.map val) = (d.length : Int) := by
  obtain ⟨r1, r2, r3, r4, r5⟩ := rightB_d hr
  have hM : (0 : Int) < (p2 1574 : Int) := by have := p2_pos 1574; omega
  have hd : ∀ a ∈ d.map val, -(p2 1574 : Int) ≤ a ∧ a ≤ (p2 1574 : Int) := fun a ha => by
    obtain ⟨x, hx, rfl⟩ := List.mem_map.1 ha
    exact val_cf (r4 x hx)
  have ho : ∀ a ∈ o.map val, -(p2 1574 : Int) ≤ a ∧ a ≤ (p2 1574 : Int) := fun a ha => by
    obtain ⟨x, hx, rfl⟩ := List.mem_map.1 ha
    exact val_cf (r5 x hx)
  refine ⟨St.cnt_none hM hd ho ?_, ?_⟩
  · rw [val_top.2]; exact Int.le_refl _
  · have := St.cnt_all hM hd ho (x := val (atW 6867989431740006400)) (by rw [val_top.1]; exact Int.le_refl _)
    rw [this, List.length_map]
theorem over_mono {d o : List Nat} {k p q : Int} (hp : -6867989431740006400 ≤ p) (hpq : p ≤ q) (hq : q ≤ 6867989431740006400) (h : over d o k p = true) : over d o k q = true := by
  unfold over at *
  have h := of_decide_eq_true h
  have := St.cnt_mono (val_mono (x := atW p) (y := atW q) (by rw [(atW_p hp (by omega)).1, (atW_p (by omega) hq).1]; exact hpq)) (d.map val) (o.map val)
  exact decide_eq_true (by omega)
theorem find_good {d o : List Nat} {k : Int} (hr : rightB d o = true) (h0 : 0 ≤ k) (h1 : k < d.length) : ∃ P : Int, findE d o k = 0 ∧ findL d o k = atW P ∧ findH d o k = atW (P + 1) ∧ -6867989431740006400 ≤ P ∧ P + 1 ≤ 6867989431740006400 ∧ over d o k P = false ∧ over d o k (P + 1) = true := by
  have he : findE d o k = 0 := by unfold findE; rw [if_pos hr, if_neg (by omega), if_neg (by omega)]
  obtain ⟨c1, c2⟩ := cnt_ends hr
  have lo : over d o k (-6867989431740006400) = false := by unfold over; rw [c1]; exact decide_eq_false (by omega)
  have hi : over d o k 6867989431740006400 = true := by unfold over; rw [c2]; exact decide_eq_true (by omega)
  have el : findL d o k = atW (findP d o k).1 := if_pos he
  have eh : findH d o k = atW (findP d o k).2 := if_pos he
  have key : -6867989431740006400 ≤ (findP d o k).1 ∧ (findP d o k).2 = (findP d o k).1 + 1 ∧ (findP d o k).2 ≤ 6867989431740006400 ∧ over d o k (findP d o k).1 = false ∧ over d o k (findP d o k).2 = true := by
    unfold findP
    cases hz : over d o k 0
    · rw [if_neg (by simp)]
      have := hlv_inv (over d o k) 64 0 6867989431740006400 (by decide) (by rw [two64]; decide) hz hi
      exact ⟨Int.le_trans (by decide) this.1, this.2.1, this.2.2.1, this.2.2.2⟩
    · rw [if_pos rfl]
      have := hlv_inv (over d o k) 64 (-6867989431740006400) 0 (by decide) (by rw [two64]; decide) lo hz
      exact ⟨this.1, this.2.1, Int.le_trans this.2.2.1 (by decide), this.2.2.2⟩
  refine ⟨(findP d o k).1, he, el, ?_, key.1, ?_, key.2.2.2.1, ?_⟩
  · rw [eh, key.2.1]
  · rw [← key.2.1]; exact key.2.2.1
  · rw [← key.2.1]; exact key.2.2.2.2
/-- The next eigenvalue's is no less. -/
theorem find_next {d o : List Nat} {k P Q : Int} (hP : -6867989431740006400 ≤ P) (hP2 : P + 1 ≤ 6867989431740006400) (hQ : -6867989431740006400 ≤ Q) (hQ2 : Q + 1 ≤ 6867989431740006400) (h1 : over d o k P = false) (h2 : over d o (k + 1) (Q + 1) = true) : P ≤ Q := by
  rcases (by omega : Q < P ∨ P ≤ Q) with h | h
  · have h3 : over d o k (Q + 1) = true := by unfold over at *; have := of_decide_eq_true h2; exact decide_eq_true (by omega)
    have := over_mono (by omega) (by omega : Q + 1 ≤ P) (by omega) h3
    rw [h1] at this; cases this
  · exact h
/-- What is found is counted. -/
theorem found {d o : List Nat} {p : Int} (hr : rightB d o = true) (h1 : -6867989431740006400 ≤ p) (h2 : p ≤ 6867989431740006400) : wrongE d o (atW p) = 0 ∧ exactN d o (atW p) = St.cnt (val (atW p)) (d.map val) (o.map val) := by
  have e := (atW_r h1 h2).1
  have hw : wrongE d o (atW p) = 0 := by unfold wrongE; rw [if_pos hr, if_neg (by omega), if_neg (by omega)]
  exact ⟨hw, if_pos hw⟩
end Go.Proofs.YtfjiojdnbdfenaaDoor


/- girderkit.Pick. -/
namespace Go.Proofs.YtfjiojdnbdfenaaDoor
open Go Go.RowKit Nv GFl
set_option maxRecDepth 100000
set_option linter.unusedSimpArgs false

theorem pick_e (x n : Int) (h1 : 1 ≤ n) (h2 : n ≤ 100) : ∃ K : Int, 0 ≤ K ∧ K < n ∧ ∀ W : World, Calls Tryd.prog 30 #[.int .i64 x, .int .i64 n] W fun e w' => e = .returned (.int .i64 K) ∧ W = w' := by
  have k1 : decide (n < 1) = false := decide_eq_false (by omega)
  have k2 : n ≠ 0 := by omega
  have m1 := Int.tmod_lt_of_pos x (show (0 : Int) < n by omega)
  have m2 : -n < x.tmod n := by
    have := Int.lt_tmod_of_pos x (show (0 : Int) < n by omega)
    omega
  have e1 : IntKind.i64.wrap (x.tmod n) = x.tmod n := by rw [IntKind.wrap_i64]; omega
  obtain ⟨m, hm⟩ : ∃ m, x.tmod n = m := ⟨_, rfl⟩
  rw [hm] at e1 m1 m2
  by_cases hn : m < 0
  · have k3 : decide (m < 0) = true := decide_eq_true hn
    refine ⟨m + n, by omega, by omega, fun W => ?_⟩
    go_enter Tryd.func30, Tryd.ntmps30
    go_wp2
    go_ret
    exact ⟨ret_int (by omega), rfl⟩
  · have k3 : decide (m < 0) = false := decide_eq_false hn
    refine ⟨m, by omega, by omega, fun W => ?_⟩
    go_enter Tryd.func30, Tryd.ntmps30
    go_wp2
    go_ret
    exact ⟨ret_int (by omega), rfl⟩
end Go.Proofs.YtfjiojdnbdfenaaDoor


/- girderlaw17.SturmBetween. -/
namespace Go.Proofs.YtfjiojdnbdfenaaDoor
open Go Go.RowKit Nv GFl
set_option maxRecDepth 100000
set_option linter.unusedSimpArgs false

/-- A world with the chain laid out. -/
structure CB (W w : World) (u v : Value) : Prop where
  b : Below W.heap.size W w
  r : w.heap[W.heap.size]? = some (.cells #[u, v] 24 (0, 0))
theorem CB.start (W : World) (u v : Value) : CB W (W.alloc (.cells #[u, v] 24)) u v := ⟨bl_alloc (Below.refl _ _) _, kb_new (Below.refl _ _)⟩
theorem CB.then {W w w' : World} {u v : Value} (h : CB W w u v) (hb : Below w.heap.size w w') : CB W w' u v := ⟨bl_then h.b hb, kb_keep hb h.r⟩
theorem CB.drewN {W w : World} {u v : Value} (h : CB W w u v) (n : Nat) : CB W (w.drewN n) u v := ⟨bl_drewN h.b n, h.r⟩
theorem CB.drew {W w : World} {u v : Value} (h : CB W w u v) : CB W w.drew u v := ⟨bl_drew h.b, h.r⟩
theorem ge_of {P Q : Int} (hP : -6867989431740006400 ≤ P) (hP2 : P ≤ 6867989431740006400) (hQ : -6867989431740006400 ≤ Q) (hQ2 : Q ≤ 6867989431740006400) (h : P ≤ Q) : (FloatKind.f64.format.order (atW Q) (atW P) == some .gt || FloatKind.f64.format.order (atW Q) (atW P) == some .eq) = true := by
  rw [t_ge (atW_r hQ hQ2).2.1 (atW_r hP hP2).2.1, (atW_p hP hP2).1, (atW_p hQ hQ2).1, (atW_p hP hP2).2.1, (atW_p hQ hQ2).2.1]
  simp [h]
/-- What the law asks, laid out: K the number, P the place, a and b the counts. -/
structure BF (A B : Option Addr) (cA cB : Nat) (d o : List Nat) (W : World) (K P a b : Int) : Prop where
  f : ∀ w, Below W.heap.size W w → Calls Tryd.prog 31 #[.agg #[.slice A d.length cA, .slice B o.length cB], .int .i64 K] w fun e w' => e = .returned (.tuple #[.float .f64 (atW P), .float .f64 (atW (P + 1)), .int .i64 0]) ∧ Below w.heap.size w w'
  e1 : ∀ w, Below W.heap.size W w → Calls Tryd.prog 15 #[.agg #[.slice A d.length cA, .slice B o.length cB], .float .f64 (atW P)] w fun e w' => e = .returned (.tuple #[.int .i64 a, .int .i64 0]) ∧ Below w.heap.size w w'
  e2 : ∀ w, Below W.heap.size W w → Calls Tryd.prog 15 #[.agg #[.slice A d.length cA, .slice B o.length cB], .float .f64 (atW (P + 1))] w fun e w' => e = .returned (.tuple #[.int .i64 b, .int .i64 0]) ∧ Below w.heap.size w w'
  p1 : ∀ w, Calls Tryd.prog 32 #[.float .f64 (atW P)] w fun e w' => e = .returned (.tuple #[.int .i64 P, .bool true]) ∧ w' = w
  p2 : ∀ w, Calls Tryd.prog 32 #[.float .f64 (atW (P + 1))] w fun e w' => e = .returned (.tuple #[.int .i64 (P + 1), .bool true]) ∧ w' = w
  ak : a ≤ K
  kb : K < b
  h1 : -6867989431740006400 ≤ P
  h2 : P + 1 ≤ 6867989431740006400
set_option maxHeartbeats 1000000 in
theorem bf_of {W : World} (A B : Option Addr) (cA cB : Nat) (d o : List Nat) (hA : d.length ≤ cA) (hB : o.length ≤ cB) (hd : Fl W A d) (ho : Fl W B o) (wd : ∀ x ∈ d, W64 x) (wo : ∀ x ∈ o, W64 x) (hT : Tab W) (hr : rightB d o = true) (K : Int) (h0 : 0 ≤ K) (h1 : K < d.length) :
    ∃ P a b, BF A B cA cB d o W K P a b ∧ over d o K P = false := by
  obtain ⟨P, g1, g2, g3, g4, g5, g6, g7⟩ := find_good hr h0 h1
  obtain ⟨u1, u2⟩ := found (d := d) (o := o) (p := P) hr g4 (by omega)
  obtain ⟨v1, v2⟩ := found (d := d) (o := o) (p := P + 1) hr (by omega) g5
  have q1 := atW_p (p := P) g4 (by omega)
  have q2 := atW_p (p := P + 1) (by omega) g5
  refine ⟨P, exactN d o (atW P), exactN d o (atW (P + 1)), ⟨fun w h => ?_, fun w h => ?_, fun w h => ?_, fun w => ?_, fun w => ?_, ?_, ?_, g4, g5⟩, g6⟩
  · have := find_c A B cA cB d o K w (hd.below h) (ho.below h) hA hB wd wo (hT.below h)
    rw [g1, g2, g3] at this
    exact this
  · have := exact_c A B cA cB d o (atW P) w (hd.below h) (ho.below h) hA hB wd wo (atW_r g4 (by omega)).2.1 (hT.below h)
    rw [u1] at this
    exact this
  · have := exact_c A B cA cB d o (atW (P + 1)) w (hd.below h) (ho.below h) hA hB wd wo (atW_r (by omega) g5).2.1 (hT.below h)
    rw [v1] at this
    exact this
  · have := place_c (atW P) (atW_r g4 (by omega)).2.1 w
    rw [q1.2.2, q1.2.1] at this
    exact this
  · have := place_c (atW (P + 1)) (atW_r (by omega) g5).2.1 w
    rw [q2.2.2, q2.2.1] at this
    exact this
  · rw [u2]; exact Int.not_lt.1 (of_decide_eq_false g6)
  · rw [v2]; exact of_decide_eq_true g7
set_option maxHeartbeats 4000000 in
theorem sturmBetween_no {W : World} (A B : Option Addr) (cA cB : Nat) (d o : List Nat) (k : Int) (hd : Fl W A d) (ho : Fl W B o) (wd : ∀ x ∈ d, W64 x) (wo : ∀ x ∈ o, W64 x) (hT : Tab W) (h : d.length = 0 ∨ 8 < d.length ∨ rightB d o = false) :
    Calls Tryd.prog 9 #[.agg #[.slice A d.length cA, .slice B o.length cB], .int .i64 k] W fun e w' => e = .returned (.bool true) ∧ Below W.heap.size W w' := by
  have aw : ∀ w, Below W.heap.size W w → Calls Tryd.prog 11 #[] w fun e w' => e = .returned (.bool true) ∧ Below w.heap.size w w' := fun w h => awake_c w (hT.below h)
  have rc : ∀ w, Below W.heap.size W w → Calls Tryd.prog 13 #[.agg #[.slice A d.length cA, .slice B o.length cB]] w fun e w' => e = .returned (.bool (rightB d o)) ∧ Below w.heap.size w w' := fun w h => right_c A B cA cB d o w (hd.below h) (ho.below h) wd wo
  have C0 := Lib.hid (CB.start W (.slice A d.length cA) (.slice B o.length cB))
  have AW := Lib.hid aw
  have RC := Lib.hid rc
  have H := Lib.hid h
  obtain ⟨r, hr⟩ : ∃ r, rightB d o = r := ⟨_, rfl⟩
  rw [hr] at RC H
  clear h hd ho wd wo hT aw rc hr
  by_cases k0 : d.length = 0
  · have k1 : ((d.length : Int) == 0) = true := by simpa using k0
    clear k0
    go_enter Tryd.func9, Tryd.ntmps9
    go_wp2_with (first
      | (go_at_call 11; (with_reducible refine (AW.out _ C0.out.b).mono ?_); rintro e w1 ⟨rfl, hb⟩; have c := CB.then C0.out hb; have cc0 := kb_cell c.r (i := 0) rfl; have cc1 := kb_cell c.r (i := 1) rfl; have C0 := Lib.hid c; clear c hb))
    go_ret
    exact ⟨rfl, by first | exact C0.out.b | exact bl_drewN C0.out.b _⟩
  · have k1 : ((d.length : Int) == 0) = false := by simpa using k0
    by_cases h8 : 8 < d.length
    · have k2 : decide (8 < (d.length : Int)) = true := decide_eq_true (by omega)
      clear k0 h8
      go_enter Tryd.func9, Tryd.ntmps9
      go_wp2_with (first
        | (go_at_call 11; (with_reducible refine (AW.out _ C0.out.b).mono ?_); rintro e w1 ⟨rfl, hb⟩; have c := CB.then C0.out hb; have cc0 := kb_cell c.r (i := 0) rfl; have cc1 := kb_cell c.r (i := 1) rfl; have C0 := Lib.hid c; clear c hb))
      go_ret
      exact ⟨rfl, by first | exact C0.out.b | exact bl_drewN C0.out.b _⟩
    · have k2 : decide (8 < (d.length : Int)) = false := decide_eq_false (by omega)
      have k3 : r = false := by rcases H.out with h | h | h; exact absurd h k0; exact absurd h h8; exact h
      subst k3
      clear k0 h8
      go_enter Tryd.func9, Tryd.ntmps9
      go_wp2_with (first
        | (go_at_call 11; (with_reducible refine (AW.out _ C0.out.b).mono ?_); rintro e w1 ⟨rfl, hb⟩; have c := CB.then C0.out hb; have cc0 := kb_cell c.r (i := 0) rfl; have cc1 := kb_cell c.r (i := 1) rfl; have C0 := Lib.hid c; clear c hb)
        | (go_at_call 13; (with_reducible refine (RC.out _ C0.out.b).mono ?_); rintro e w2 ⟨rfl, hb⟩; have c := CB.then C0.out hb; have cc0 := kb_cell c.r (i := 0) rfl; have cc1 := kb_cell c.r (i := 1) rfl; have C0 := Lib.hid c; clear c hb))
      go_ret
      exact ⟨rfl, by first | exact C0.out.b | exact bl_drewN C0.out.b _⟩
set_option maxHeartbeats 8000000 in
theorem sturmBetween_yes {W : World} (A B : Option Addr) (cA cB : Nat) (d o : List Nat) (k : Int) (hA : d.length ≤ cA) (hB : o.length ≤ cB) (hd : Fl W A d) (ho : Fl W B o) (wd : ∀ x ∈ d, W64 x) (wo : ∀ x ∈ o, W64 x) (hT : Tab W) (h0 : d.length ≠ 0) (h8 : d.length ≤ 8) (hr : rightB d o = true) :
    Calls Tryd.prog 9 #[.agg #[.slice A d.length cA, .slice B o.length cB], .int .i64 k] W fun e w' => e = .returned (.bool true) ∧ Below W.heap.size W w' := by
  have aw : ∀ w, Below W.heap.size W w → Calls Tryd.prog 11 #[] w fun e w' => e = .returned (.bool true) ∧ Below w.heap.size w w' := fun w h => awake_c w (hT.below h)
  have rc : ∀ w, Below W.heap.size W w → Calls Tryd.prog 13 #[.agg #[.slice A d.length cA, .slice B o.length cB]] w fun e w' => e = .returned (.bool (rightB d o)) ∧ Below w.heap.size w w' := fun w h => right_c A B cA cB d o w (hd.below h) (ho.below h) wd wo
  have C0 := Lib.hid (CB.start W (.slice A d.length cA) (.slice B o.length cB))
  obtain ⟨K, hK0, hK1, pk⟩ := pick_e k d.length (by omega) (by omega)
  obtain ⟨P, a, b, F, hov⟩ := bf_of A B cA cB d o hA hB hd ho wd wo hT hr K hK0 hK1
  have fn : ∃ (x y : Nat) (E : Int), (∀ w, Below W.heap.size W w → Calls Tryd.prog 31 #[.agg #[.slice A d.length cA, .slice B o.length cB], .int .i64 (K + 1)] w fun e w' => e = .returned (.tuple #[.float .f64 x, .float .f64 y, .int .i64 E]) ∧ Below w.heap.size w w') ∧
      ((K + 1 == (d.length : Int)) = true ∧ E = 270 ∧ x = 0 ∨ (K + 1 == (d.length : Int)) = false ∧ E = 0 ∧ (FloatKind.f64.format.order x (atW P) == some .gt || FloatKind.f64.format.order x (atW P) == some .eq) = true) := by
    by_cases hl : K + 1 = (d.length : Int)
    · have he : findE d o (K + 1) = 270 := by unfold findE; rw [if_pos hr, if_neg (by omega), if_pos (by omega)]
      have hx : findL d o (K + 1) = 0 := if_neg (by rw [he]; decide)
      refine ⟨findL d o (K + 1), findH d o (K + 1), findE d o (K + 1), fun w h => find_c A B cA cB d o (K + 1) w (hd.below h) (ho.below h) hA hB wd wo (hT.below h), Or.inl ⟨by simpa using hl, he, hx⟩⟩
    · obtain ⟨Q, a', b', F', hov'⟩ := bf_of A B cA cB d o hA hB hd ho wd wo hT hr (K + 1) (by omega) (by omega)
      obtain ⟨Q', g1, g2, g3, g4, g5, g6, g7⟩ := find_good hr (show 0 ≤ K + 1 by omega) (show K + 1 < d.length by omega)
      refine ⟨findL d o (K + 1), findH d o (K + 1), findE d o (K + 1), fun w h => find_c A B cA cB d o (K + 1) w (hd.below h) (ho.below h) hA hB wd wo (hT.below h), Or.inr ⟨by simpa using hl, g1, ?_⟩⟩
      rw [g2]
      exact ge_of F.h1 (by have := F.h2; omega) g4 (by omega) (find_next F.h1 F.h2 g4 g5 hov g7)
  obtain ⟨x, y, E, nx, hE⟩ := fn
  have k1 : ((d.length : Int) == 0) = false := by simpa using h0
  have k2 : decide (8 < (d.length : Int)) = false := decide_eq_false (by omega)
  have k3 : decide (K < a) = false := decide_eq_false (by have := F.ak; omega)
  have k4 : decide (b ≤ K) = false := decide_eq_false (by have := F.kb; omega)
  have ep : wrap64 (P + 1) = P + 1 := by have h1 := F.h1; have h2 := F.h2; unfold wrap64; omega
  have ek : wrap64 (K + 1) = K + 1 := by unfold wrap64; omega
  rw [hr] at rc
  have AW := Lib.hid aw
  have RC := Lib.hid rc
  have PK := Lib.hid pk
  have FF := Lib.hid F.f
  have E1 := Lib.hid F.e1
  have E2 := Lib.hid F.e2
  have P1 := Lib.hid F.p1
  have P2 := Lib.hid F.p2
  have NX := Lib.hid nx
  clear nx F pk rc aw hov h0 h8 hr hd ho hA hB wd wo hT hK0 hK1
  have z0 : (FloatKind.f64.format.order 0 0 == some .eq) = true := by decide
  rcases hE with ⟨t1, rfl, rfl⟩ | ⟨t1, rfl, t2⟩
  all_goals
    go_enter Tryd.func9, Tryd.ntmps9
    go_wp2_with (first
      | (go_at_call 11; (with_reducible refine (AW.out _ C0.out.b).mono ?_); rintro e w1 ⟨rfl, hb⟩; have c := CB.then C0.out hb; have cc0 := kb_cell c.r (i := 0) rfl; have cc1 := kb_cell c.r (i := 1) rfl; have C0 := Lib.hid c; clear c hb)
      | (go_at_call 13; (with_reducible refine (RC.out _ C0.out.b).mono ?_); rintro e w2 ⟨rfl, hb⟩; have c := CB.then C0.out hb; have cc0 := kb_cell c.r (i := 0) rfl; have cc1 := kb_cell c.r (i := 1) rfl; have C0 := Lib.hid c; clear c hb)
      | (go_at_call 30; (with_reducible refine (PK.out _).mono ?_); rintro e w' ⟨rfl, hw⟩; obtain rfl := hw.symm; clear hw)
      | (go_at_call 31; (with_reducible refine (FF.out _ C0.out.b).mono ?_); rintro e w3 ⟨rfl, hb⟩; have c := CB.then C0.out hb; have cc0 := kb_cell c.r (i := 0) rfl; have cc1 := kb_cell c.r (i := 1) rfl; have C0 := Lib.hid c; clear c hb)
      | (go_at_call 31; (with_reducible refine (NX.out _ C0.out.b).mono ?_); rintro e w3 ⟨rfl, hb⟩; have c := CB.then C0.out hb; have cc0 := kb_cell c.r (i := 0) rfl; have cc1 := kb_cell c.r (i := 1) rfl; have C0 := Lib.hid c; clear c hb)
      | (go_at_call 15; (with_reducible refine (E1.out _ C0.out.b).mono ?_); rintro e w3 ⟨rfl, hb⟩; have c := CB.then C0.out hb; have cc0 := kb_cell c.r (i := 0) rfl; have cc1 := kb_cell c.r (i := 1) rfl; have C0 := Lib.hid c; clear c hb)
      | (go_at_call 15; (with_reducible refine (E2.out _ C0.out.b).mono ?_); rintro e w3 ⟨rfl, hb⟩; have c := CB.then C0.out hb; have cc0 := kb_cell c.r (i := 0) rfl; have cc1 := kb_cell c.r (i := 1) rfl; have C0 := Lib.hid c; clear c hb)
      | (go_at_call 32; (with_reducible refine (P1.out _).mono ?_); rintro e w' ⟨rfl, hw⟩; obtain rfl := hw.symm; clear hw)
      | (go_at_call 32; (with_reducible refine (P2.out _).mono ?_); rintro e w' ⟨rfl, hw⟩; obtain rfl := hw.symm; clear hw))
    go_ret
    exact ⟨rfl, by first | exact C0.out.b | exact bl_drewN C0.out.b _⟩
theorem sturmBetween_c {W : World} (A B : Option Addr) (cA cB : Nat) (d o : List Nat) (k : Int) (hA : d.length ≤ cA) (hB : o.length ≤ cB) (hd : Fl W A d) (ho : Fl W B o) (wd : ∀ x ∈ d, W64 x) (wo : ∀ x ∈ o, W64 x) (_ : -9223372036854775808 ≤ k) (_ : k ≤ 9223372036854775807) (hT : Tab W) :
    Calls Tryd.prog 9 #[.agg #[.slice A d.length cA, .slice B o.length cB], .int .i64 k] W fun e w' => e = .returned (.bool true) ∧ Below W.heap.size W w' := by
  by_cases h : d.length = 0 ∨ 8 < d.length ∨ rightB d o = false
  · exact sturmBetween_no A B cA cB d o k hd ho wd wo hT h
  · refine sturmBetween_yes A B cA cB d o k hA hB hd ho wd wo hT (fun h0 => h (Or.inl h0)) ?_ ?_
    · rcases Nat.lt_or_ge 8 d.length with h8 | h8
      · exact absurd (Or.inr (Or.inl h8)) h
      · exact h8
    · cases hr : rightB d o
      · exact absurd (Or.inr (Or.inr hr)) h
      · rfl
end Go.Proofs.YtfjiojdnbdfenaaDoor


/- What Least answers of a chord (plain). -/
namespace Go.Proofs.YtfjiojdnbdfenaaDoor
open Go Nv GFl Ieee
set_option maxRecDepth 100000

theorem zeroW : W64 0 := w_const (by decide)
theorem val0 : val 0 = 0 := by decide
/-- A good chord: counted at 0. -/
theorem ch_right {p l : List Nat} {s : Nat} (h : Gd p l s) : rightB (chD p l s) (chO p l s) = true ∧ wrongE (chD p l s) (chO p l s) 0 = 0 ∧ exactN (chD p l s) (chO p l s) 0 = St.cnt 0 ((chD p l s).map val) ((chO p l s).map val) := by
  obtain ⟨h1, h2, h3, h4⟩ := ch_cf h
  have hn := h.n
  have hr : rightB (chD p l s) (chO p l s) = true := by
    unfold rightB okF
    simp only [Bool.and_eq_true, decide_eq_true_eq, List.all_eq_true]
    exact ⟨⟨by omega, by omega, by omega⟩, fun x hx => (h1 x hx).r, fun x hx => (h2 x hx).r⟩
  have hw : wrongE (chD p l s) (chO p l s) 0 = 0 := by
    unfold wrongE
    rw [if_pos hr, if_neg (by decide), if_neg (by decide)]
  refine ⟨hr, hw, ?_⟩
  unfold exactN
  rw [if_pos hw, val0]
theorem gv_n {p l : List Nat} {s : Nat} (h : Gd p l s) : (gvB p l s = false → exactN (chD p l s) (chO p l s) 0 = 0) ∧ (gvB p l s = true → 0 < exactN (chD p l s) (chO p l s) 0) := by
  rw [(ch_right h).2.2]
  have := (St.cnt_range 0 ((chD p l s).map val) ((chO p l s).map val)).1
  unfold gvB
  exact ⟨fun h => by have := of_decide_eq_false h; omega, fun h => of_decide_eq_true h⟩
theorem ps0 : Ps 0 := ⟨zeroW, by decide, by decide⟩
theorem ps_r2 {s : Nat} (h : Ps s) : 0 ≤ plc s ∧ plc s ≤ 4877398396442247168 := by have := h.hi; rw [h.pos]; omega
/-- Least's answer. -/
theorem least_good {p l : List Nat} {s : Nat} (h : Gd p l s) (hg : gvB p l s = true) : ∃ P : Int, leastE p l s = 0 ∧ leastL p l s = atW P ∧ leastH p l s = atW (P + 1) ∧ 0 ≤ P ∧ P + 1 ≤ plc s ∧ gvB p l (atW P) = false ∧ gvB p l (atW (P + 1)) = true := by
  have he : leastE p l s = 0 := by unfold leastE; rw [if_pos (gd_mk h), if_pos hg]
  have hr := ps_r2 h.s
  have h0 : rg s ≠ 0 := fun h0 => by rw [gv_zero h h0] at hg; cases hg
  have hn : neg s = false := by
    have := h.s.pos
    rw [plc_eq] at this
    cases hn : neg s
    · rfl
    · rw [hn] at this; simp only [if_true] at this; omega
  have es : atW (plc s) = s := by
    unfold atW
    rw [plc_eq, hn]
    have e : decide ((if false = true then -(rg s : Int) else (rg s : Int)) < 0) = false := by simp
    rw [e]
    have e2 : (if false = true then -(rg s : Int) else (rg s : Int)).natAbs = rg s := by simp
    rw [e2, ← hn]
    exact (w64_wd h.s.w).symm
  have lo : gvB p l (atW 0) = false := gv_zero (h.push (by rw [show atW 0 = 0 by decide]; exact ps0)) (by decide)
  have hi : gvB p l (atW (plc s)) = true := by rw [es]; exact hg
  have hpos : 0 < plc s := by rw [h.s.pos]; omega
  have key := hlv_inv (fun q => gvB p l (atW q)) 64 0 (plc s) hpos (by rw [two64]; omega) lo hi
  have el : leastL p l s = atW (leastP p l s).1 := if_pos he
  have eh : leastH p l s = atW (leastP p l s).2 := if_pos he
  have key : 0 ≤ (leastP p l s).1 ∧ (leastP p l s).2 = (leastP p l s).1 + 1 ∧ (leastP p l s).2 ≤ plc s ∧ gvB p l (atW (leastP p l s).1) = false ∧ gvB p l (atW (leastP p l s).2) = true := key
  refine ⟨(leastP p l s).1, he, el, ?_, key.1, ?_, key.2.2.2.1, ?_⟩
  · rw [eh, key.2.1]
  · rw [← key.2.1]; exact key.2.2.1
  · rw [← key.2.1]; exact key.2.2.2.2
/-- The sign of a difference. -/
theorem dif_neg {x y : Nat} (hx : W64 x) (hy : W64 y) (fx : rg x < 9218868437227405312) (fy : rg y < 9218868437227405312) : decide (val (fsub x y) < 0) = decide (plc x < plc y) := by
  obtain ⟨r, hr, e⟩ := sub64 hx hy fx fy
  have lt : val x < val y ↔ plc x < plc y := sv_lt_iff
  rw [fsub_of e, val_wd (by have := Nat.min_le_right r 9218868437227405312; omega)]
  have pos : val x - val y ≠ 0 → 0 < mg B52 (min r 9218868437227405312) := fun h => by
    have : r ≠ 0 := fun h0 => by
      subst h0
      have := hr.up
      rw [mg_zero _ B52_pos, mg_small (by decide)] at this
      omega
    exact Nat.lt_of_lt_of_le (by omega) (le_mg B52 _ B52_pos)
  rw [Bool.eq_iff_iff, decide_eq_true_eq, decide_eq_true_eq, ← lt]
  by_cases h0 : val x - val y = 0
  · have hr' : IsRn B52 (val x - val y).natAbs 1 r := hr
    rw [h0] at hr'
    have h1 : ¬ val x < val y := by omega
    have r0 : r = 0 := hr'.unique B52_pos (by decide) (IsRn.zero B52_pos (by decide))
    rw [r0, Nat.zero_min, mg_zero _ B52_pos]
    constructor
    · intro h2; split at h2 <;> simp at h2
    · intro h2; exact absurd h2 h1
  · have hm := pos h0
    generalize mg B52 (min r 9218868437227405312) = m at *
    rw [if_neg h0]
    by_cases h1 : val x - val y < 0
    · rw [decide_eq_true h1]; simp only [if_true]; omega
    · rw [decide_eq_false h1]; simp only [Bool.false_eq_true, if_false]; omega
/-- One prop. -/
theorem one_prop {p l : List Nat} {s : Nat} (h : Gd p l s) (h1 : p.length = 1) : ∃ (i0 : 0 < p.length) (j0 : 0 < l.length) (j1 : 1 < l.length), double.div s l[0] = some (fdiv s l[0]) ∧ double.div s l[1] = some (fdiv s l[1]) ∧ double.add (fdiv s l[0]) (fdiv s l[1]) = some (fadd (fdiv s l[0]) (fdiv s l[1])) ∧
    (exactN (chD p l s) (chO p l s) 0 == 1) = (double.order p[0] (fadd (fdiv s l[0]) (fdiv s l[1])) == some .lt) := by
  have hn := h.n
  refine ⟨by omega, by omega, by omega, ?_⟩
  have j0 : 0 < l.length := by omega
  have j1 : 1 < l.length := by omega
  have i0 : 0 < p.length := by omega
  obtain ⟨x1, x2, x3, _⟩ := quo_ok h.s (h.l _ (List.getElem_mem j0))
  obtain ⟨y1, y2, y3, _⟩ := quo_ok h.s (h.l _ (List.getElem_mem j1))
  obtain ⟨z1, z2, z3⟩ := add_ok x2 y2 x3 y3
  obtain ⟨t1, t2, t3⟩ := dif_ok (h.p _ (List.getElem_mem i0)) z2 z3
  have hp := h.p _ (List.getElem_mem i0)
  refine ⟨x1, y1, z1, ?_⟩
  have eD : chD p l s = [fsub p[0] (fadd (fdiv s l[0]) (fdiv s l[1]))] := by
    unfold chD chDk
    rw [if_pos (gd_mk h), h1]
    simp only [List.range_one, List.map_cons, List.map_nil, List.getD_eq_getElem?_getD, List.getElem?_eq_getElem i0, List.getElem?_eq_getElem j0, List.getElem?_eq_getElem (show 0 + 1 < l.length from j1), Option.getD_some]
  have eO : chO p l s = [] := by
    unfold chO chOk
    rw [if_pos (gd_mk h), h1]; rfl
  have fz : rg (fadd (fdiv s l[0]) (fdiv s l[1])) < 9218868437227405312 := Nat.lt_of_le_of_lt z3 (by decide)
  have fp : rg p[0] < 9218868437227405312 := by have := hp.hi; omega
  rw [(ch_right h).2.2, eD, eO, o_lt hp.w z2.w, z2.isn, show isn p[0] = false by rw [isn_eq]; simp; omega, ← dif_neg hp.w z2.w fp fz]
  have e := St.cnt_zeros 0 [val (fsub p[0] (fadd (fdiv s l[0]) (fdiv s l[1])))] [] (fun y hy => by cases hy)
  show (St.cnt 0 [val (fsub p[0] (fadd (fdiv s l[0]) (fdiv s l[1])))] [] == 1) = _
  rw [e]
  generalize val (fsub p[0] (fadd (fdiv s l[0]) (fdiv s l[1]))) = v
  by_cases hv : v < 0 <;> simp [hv]
end Go.Proofs.YtfjiojdnbdfenaaDoor


/- girderlaw17.SturmParts. -/
namespace Go.Proofs.YtfjiojdnbdfenaaDoor
open Go Go.RowKit Nv GFl Ieee
open Go.Proofs.YtfjiojdnbdfenaaDoorW.PrintWords (Kd print_append_row_of)
set_option maxRecDepth 100000
set_option linter.unusedSimpArgs false

theorem copy_c (A : Option Addr) (c : Nat) (l : List Nat) (W : World) (hl : Fl W A l) (hn : l.length ≤ 1000) :
    Calls Tryd.prog 29 #[.slice A l.length c] W fun e w' => ∃ v, e = .returned v ∧ Ow w' W.heap.size v l ∧ Below W.heap.size W w' := by
  go_enter Tryd.func29, Tryd.ntmps29
  go_wp2_with (first
    | (at_builtin; (refine print_append_row_of (w0 := W) (Value.float .f64) 0 W.heap.size rfl (.tmp 4) (.tmp 5) 22 25 (.float .f64 0) 8 rfl Tryd.underlying22 f_info rfl (by decide) (fun _ => rfl) (.slice none 0 0) [] l A l.length c rfl rfl (World.ownsRow_nil _ _ _ _) (Kd.reads_of_C hl) (Below.refl _ _) (Nat.le_refl _) (by simp; omega) ?_); intro v1 w1 hown hb hg hat))
  exact bodyPost_ret (v := v1) (by simp [results, Tryd.results29, go_sem]) rfl ⟨v1, rfl, by simpa [Go.Proofs.YtfjiojdnbdfenaaDoorW.PrintWords.encs] using hown, hb⟩
/-- The numbers below x. -/
def blw (D : List Nat) (x : Nat) : Int := ((D.filter fun a => decide (plc a < plc x)).length : Nat)
theorem blw_exact {D : List Nat} {x : Nat} (h : wrongE D (List.replicate (D.length - 1) 0) x = 0) : exactN D (List.replicate (D.length - 1) 0) x = blw D x := by
  unfold exactN
  rw [if_pos h, St.cnt_zeros]
  · unfold blw
    rw [List.filter_map, List.length_map]
    have e : ((fun a : Int => decide (a < val x)) ∘ val) = fun a => decide (plc a < plc x) := by
      funext a
      have : val a < val x ↔ plc a < plc x := sv_lt_iff
      simp [this]
    rw [e]
  · intro y hy
    obtain ⟨z, hz, rfl⟩ := List.mem_map.1 hy
    rw [List.eq_of_mem_replicate hz]; decide
/-- What couples, as the law takes it. -/
def offOk (y : Nat) : Bool := decide (rg y < 9218868437227405312) && decide (plc y < 6103021453049119613) && decide (-6103021453049119613 < plc y)
def offAt (q : List Nat) (i : Nat) : Nat := if i < q.length ∧ offOk (q.getD i 0) = true then q.getD i 0 else 4607182418800017408
def offs (q : List Nat) (n : Nat) : List Nat := (List.range n).map (offAt q)
theorem offs_len (q : List Nat) (n : Nat) : (offs q n).length = n := by unfold offs; simp
theorem offs_succ (q : List Nat) (n : Nat) : offs q (n + 1) = offs q n ++ [offAt q n] := by unfold offs; rw [List.range_succ, List.map_append]; rfl
theorem offAt_ok (q : List Nat) (wq : ∀ x ∈ q, W64 x) (i : Nat) : Cf (offAt q i) := by
  unfold offAt
  split
  · rename_i h
    obtain ⟨h1, h2⟩ := h
    rw [List.getD_eq_getElem?_getD, List.getElem?_eq_getElem h1, Option.getD_some] at h2 ⊢
    unfold offOk at h2
    simp only [Bool.and_eq_true, decide_eq_true_eq] at h2
    have := plc_natAbs q[i]
    exact ⟨wq _ (List.getElem_mem h1), by omega⟩
  · exact ⟨w_const (by decide), by decide⟩
theorem right_of {D O : List Nat} {x : Nat} (h1 : 1 ≤ D.length) (h2 : D.length ≤ 64) (h3 : O.length + 1 = D.length) (hd : ∀ y ∈ D, rg y ≤ 6858982232485265408) (ho : ∀ y ∈ O, rg y ≤ 6858982232485265408) (hx : rg x ≤ 6867989431740006400) :
    wrongE D O x = 0 ∧ exactN D O x = St.cnt (val x) (D.map val) (O.map val) := by
  have hr : rightB D O = true := by
    unfold rightB okF
    simp only [Bool.and_eq_true, decide_eq_true_eq, List.all_eq_true]
    exact ⟨⟨h1, h2, h3⟩, hd, ho⟩
  have hw : wrongE D O x = 0 := by unfold wrongE; rw [if_pos hr, if_neg (by omega), if_neg (by omega)]
  exact ⟨hw, if_pos hw⟩
/-- A chain that is parted by a 0. -/
theorem parted {D O : List Nat} {x t : Nat} (h1 : 1 ≤ t) (h2 : t < D.length) (h64 : D.length ≤ 64) (h3 : O.length + 1 = D.length) (hd : ∀ y ∈ D, rg y ≤ 6858982232485265408) (ho : ∀ y ∈ O, rg y ≤ 6858982232485265408) (hx : rg x ≤ 6867989431740006400) :
    wrongE D (O.set (t - 1) 0) x = 0 ∧ wrongE (D.take t) ((O.set (t - 1) 0).take (t - 1)) x = 0 ∧ wrongE (D.drop t) ((O.set (t - 1) 0).drop t) x = 0 ∧
    exactN D (O.set (t - 1) 0) x = exactN (D.take t) ((O.set (t - 1) 0).take (t - 1)) x + exactN (D.drop t) ((O.set (t - 1) 0).drop t) x := by
  have hs : ∀ y ∈ O.set (t - 1) 0, rg y ≤ 6858982232485265408 := fun y hy => by
    rcases List.mem_or_eq_of_mem_set hy with hy | rfl
    · exact ho y hy
    · decide
  obtain ⟨a1, a2⟩ := right_of (D := D) (O := O.set (t - 1) 0) (x := x) (by omega) h64 (by simpa using h3) hd hs hx
  obtain ⟨b1, b2⟩ := right_of (D := D.take t) (O := (O.set (t - 1) 0).take (t - 1)) (x := x) (by simp; omega) (by simp; omega) (by simp; omega) (fun y hy => hd y (List.mem_of_mem_take hy)) (fun y hy => hs y (List.mem_of_mem_take hy)) hx
  obtain ⟨c1, c2⟩ := right_of (D := D.drop t) (O := (O.set (t - 1) 0).drop t) (x := x) (by simp; omega) (by simp; omega) (by simp; omega) (fun y hy => hd y (List.mem_of_mem_drop hy)) (fun y hy => hs y (List.mem_of_mem_drop hy)) hx
  refine ⟨a1, b1, c1, ?_⟩
  rw [a2, b2, c2]
  have hk : t - 1 < (O.set (t - 1) 0).length := by simp; omega
  have e1 : O.set (t - 1) 0 = (O.set (t - 1) 0).take (t - 1) ++ 0 :: (O.set (t - 1) 0).drop t := by
    have := List.take_append_drop (t - 1) (O.set (t - 1) 0)
    rw [List.drop_eq_getElem_cons hk, List.getElem_set_self, show t - 1 + 1 = t by omega] at this
    exact this.symm
  have e2 : D = D.take t ++ D.drop t := (List.take_append_drop t D).symm
  have := St.cnt_app (val x) ((D.take t).map val) ((D.drop t).map val) (((O.set (t - 1) 0).take (t - 1)).map val) (((O.set (t - 1) 0).drop t).map val) (by simp; omega)
  rw [← this, ← List.map_append, ← e2]
  congr 1
  rw [show (0 : Int) = val 0 from val0.symm, ← List.map_cons, ← List.map_append, ← e1]

end Go.Proofs.YtfjiojdnbdfenaaDoor


/- Plain laws: whole numbers as floats, their roots, what the root leaves. No program. -/
namespace GFl
open Ieee Go

theorem word_w (s : Bool) (r : Nat) : W64 (double.word s (min r double.infRung)) := word_lt s r good_double
theorem write_num (s : Bool) (m : Nat) (e : Int) : W64 (double.write (.number s m e)) ∧ neg (double.write (.number s m e)) = s ∧ rg (double.write (.number s m e)) ≤ 9218868437227405312 := by
  obtain ⟨r, _, h⟩ := nearest_rn good_double s m e
  have h' : double.write (.number s m e) = wd s (min r 9218868437227405312) := by rw [← d_inf]; exact h
  have hl : min r 9218868437227405312 < 9223372036854775808 := by omega
  rw [h']
  exact ⟨wd_w hl, wd_neg hl, by rw [wd_rg hl]; omega⟩
theorem write_inf (s : Bool) : double.write (.infinity s) = wd s 9218868437227405312 := by rw [← d_inf]; rfl
/-- A positive float's root. -/
theorem sqrt_pos {x : Nat} (hx : W64 x) (hn : neg x = false) (hf : rg x < 9218868437227405312) : ∃ r, double.sqrt x = some r ∧ W64 r ∧ neg r = false ∧ rg r ≤ 9218868437227405312 := by
  obtain ⟨m, e, hr, _, _, _, _⟩ := read_num (f := double) hx (by rw [d_inf]; exact hf)
  have hs : sgn double x = false := hn
  rw [hs] at hr
  unfold Format.sqrt
  rw [hr]
  by_cases h0 : m = 0
  · refine ⟨_, by simp only [Datum.root, if_pos h0]; rfl, write_num false m e⟩
  · refine ⟨_, by simp only [Datum.root, if_neg h0]; rfl, write_num false _ _⟩
theorem read_fin {x : Nat} (hx : W64 x) (hf : rg x < 9218868437227405312) : ∃ m e, double.read x = .number (neg x) m e := by
  obtain ⟨m, e, hr, _⟩ := read_num (f := double) hx (by rw [d_inf]; exact hf)
  exact ⟨m, e, hr⟩
/-- What is left of x beside r's square. -/
theorem fma_left {r x : Nat} (hr : W64 r) (hn : neg r = false) (hri : rg r ≤ 9218868437227405312) (hx : W64 x) (hf : rg x < 9218868437227405312) : ∃ t, double.fma (fneg r) r x = some t ∧ W64 t ∧ (rg r = 9218868437227405312 → t = wd true 9218868437227405312) := by
  obtain ⟨m, e, ex⟩ := read_fin hx hf
  unfold Format.fma
  rw [ex]
  by_cases h : rg r < 9218868437227405312
  · obtain ⟨m1, e1, er⟩ := read_fin hr h
    obtain ⟨m2, e2, en⟩ := read_fin (fneg_w hr) (by rw [fneg_rg hr]; exact h)
    rw [er, en]
    refine ⟨_, rfl, ?_, fun h' => absurd h (by omega)⟩
    exact (write_num _ _ _).1
  · have h' : rg r = 9218868437227405312 := by omega
    have er : double.read r = .infinity (neg r) := read_inf (f := double) hr (by rw [d_inf]; exact h') good_double
    have en : double.read (fneg r) = .infinity (neg (fneg r)) := read_inf (f := double) (fneg_w hr) (by rw [d_inf]; exact (fneg_rg hr).trans h') good_double
    rw [er, en, fneg_neg hr, hn]
    refine ⟨_, rfl, ?_, fun _ => write_inf true⟩
    show W64 (double.write (.infinity true))
    rw [write_inf]; exact wd_w (by decide)
theorem sub_self64 {x : Nat} (hx : W64 x) (hf : rg x < 9218868437227405312) : double.sub x x = some 0 := by
  obtain ⟨m, e, ex⟩ := read_fin hx hf
  unfold Format.sub
  rw [ex]
  simp only [Datum.opposite, Datum.sum, Option.map_some]
  have h : signed (neg x) m (e - min e e).toNat + signed (!neg x) m (e - min e e).toNat = 0 := by
    unfold signed
    cases neg x <;> simp <;> omega
  rw [h, if_pos rfl]
  have hb : (neg x && !neg x) = false := by cases neg x <;> rfl
  rw [hb]
  show some (double.nearest false 0 (min e e)) = some 0
  unfold Format.nearest
  rw [if_pos rfl]; decide
/-- A whole number as a float. -/
theorem int_float {n : Nat} (h1 : 1 ≤ n) (h2 : n < 9007199254740992) : ∃ x, floatOfInt .f64 (n : Int) = x ∧ W64 x ∧ neg x = false ∧ 4607182418800017408 ≤ rg x ∧ rg x < 4845873199050653696 ∧ mg B52 (rg x) = n * p2 1074 := by
  obtain ⟨z, hz, hw, hn, hf, hm⟩ := ofNat64 h2
  refine ⟨z, ?_, hw, hn, ?_, ?_, hm⟩
  · unfold floatOfInt FloatKind.nearest FloatKind.encode FloatKind.format
    have h1 : ¬ (n : Int) < 0 := by omega
    simp only [h1, decide_false, Int.natAbs_natCast]
    exact hz
  · rw [← mg_le_iff (B := B52) B52_pos, hm]
    have := one_mg
    rw [one_rg] at this
    rw [this]
    exact Nat.le_mul_of_pos_left _ h1
  · rw [← mg_lt_iff (B := B52) B52_pos, hm]
    have e : mg B52 4845873199050653696 = B52 * p2 1075 := mg_B 1076 0 (by decide) (by decide)
    rw [e, show (1075 : Nat) = 1 + 1074 from rfl, p2_add, ← Nat.mul_assoc]
    exact Nat.mul_lt_mul_of_pos_right (by rw [show B52 * p2 1 = 9007199254740992 by decide +kernel]; exact h2) (p2_pos _)
theorem int_float0 : floatOfInt .f64 0 = 0 := by decide
end GFl


/- girderlaw17.SturmTurned: plain facts. -/
namespace Go.Proofs.YtfjiojdnbdfenaaDoor
open Go Go.RowKit Nv GFl Ieee
set_option maxRecDepth 100000
set_option linter.unusedSimpArgs false

/-- A whole number as a float. -/
def fi (n : Int) : Nat := floatOfInt .f64 n
theorem fi_neg {m : Nat} (h1 : 1 ≤ m) (h2 : m < 9007199254740992) : fi (-(m : Int)) = fneg (fi (m : Int)) := by
  obtain ⟨x, hx, hw, hn, h3, h4, hm⟩ := int_float h1 h2
  have e0 : fi (m : Int) = x := hx
  obtain ⟨r, hr, e⟩ := nearest_rn good_double false m 0
  obtain ⟨r', hr', e'⟩ := nearest_rn good_double true m 0
  have hrr : r = r' := hr.unique (binade_pos _) (Nat.two_pow_pos _) hr'
  subst hrr
  have f1 : fi (m : Int) = wd false (min r 9218868437227405312) := by
    rw [← d_inf, ← show double.nearest false m 0 = wd false (min r double.infRung) from e]
    unfold fi floatOfInt FloatKind.nearest FloatKind.encode FloatKind.format
    have h1 : ¬ (m : Int) < 0 := by omega
    simp only [h1, decide_false, Int.natAbs_natCast]
    rfl
  have f2 : fi (-(m : Int)) = wd true (min r 9218868437227405312) := by
    rw [← d_inf, ← show double.nearest true m 0 = wd true (min r double.infRung) from e']
    unfold fi floatOfInt FloatKind.nearest FloatKind.encode FloatKind.format
    have h1 : -(m : Int) < 0 := by omega
    simp only [h1, decide_true, Int.natAbs_neg, Int.natAbs_natCast]
    rfl
  have hl : min r 9218868437227405312 < 9223372036854775808 := by omega
  have w1 : W64 (fi (m : Int)) := by rw [f1]; exact wd_w hl
  refine w64_ext (by rw [f2]; exact wd_w hl) (fneg_w w1) ?_ ?_
  · rw [fneg_neg w1, f1, f2, wd_neg hl, wd_neg hl]; rfl
  · rw [fneg_rg w1, f1, f2, wd_rg hl, wd_rg hl]
theorem fi_ok {n : Int} (h1 : -100000 ≤ n) (h2 : n ≤ 100000) : W64 (fi n) ∧ val (fi n) = n * (p2 1074 : Nat) ∧ rg (fi n) < 4845873199050653696 := by
  have pos : ∀ m : Nat, 1 ≤ m → m ≤ 100000 → W64 (fi (m : Int)) ∧ val (fi (m : Int)) = (m : Int) * (p2 1074 : Nat) ∧ rg (fi (m : Int)) < 4845873199050653696 := fun m g1 g2 => by
    obtain ⟨x, hx, hw, hn, h3, h4, hm⟩ := int_float g1 (by omega : m < 9007199254740992)
    have e0 : fi (m : Int) = x := hx
    rw [e0]
    refine ⟨hw, ?_, h4⟩
    rw [val_eq, hn]
    show ((mg B52 (rg x) : Nat) : Int) = _
    rw [hm]; push_cast; rfl
  rcases Int.lt_trichotomy n 0 with h | h | h
  · obtain ⟨m, rfl⟩ : ∃ m : Nat, n = -(m : Int) := ⟨n.natAbs, by omega⟩
    obtain ⟨a1, a2, a3⟩ := pos m (by omega) (by omega)
    rw [fi_neg (by omega) (by omega)]
    exact ⟨fneg_w a1, by rw [fneg_val a1, a2, Int.neg_mul], by rw [fneg_rg a1]; exact a3⟩
  · subst h
    have e : fi 0 = 0 := int_float0
    rw [e]
    exact ⟨w_const (by decide), by rw [val0]; simp, by decide⟩
  · obtain ⟨m, rfl⟩ : ∃ m : Nat, n = (m : Int) := ⟨n.toNat, by omega⟩
    exact pos m (by omega) (by omega)
/-- The difference of two of them is exact. -/
theorem sub_fi {a b : Int} (h1 : -50000 ≤ a) (h2 : a ≤ 50000) (h3 : -50000 ≤ b) (h4 : b ≤ 50000) : double.sub (fi a) (fi b) = some (fsub (fi a) (fi b)) ∧ W64 (fsub (fi a) (fi b)) ∧ val (fsub (fi a) (fi b)) = val (fi a) - val (fi b) ∧ rg (fsub (fi a) (fi b)) < 4845873199050653696 := by
  obtain ⟨a1, a2, a3⟩ := fi_ok (n := a) (by omega) (by omega)
  obtain ⟨b1, b2, b3⟩ := fi_ok (n := b) (by omega) (by omega)
  obtain ⟨c1, c2, c3⟩ := fi_ok (n := a - b) (by omega) (by omega)
  have hd : val (fi a) - val (fi b) = val (fi (a - b)) := by rw [a2, b2, c2, Int.sub_mul]
  obtain ⟨r, hr, e⟩ := sub64 a1 b1 (by omega) (by omega)
  rw [hd] at hr e
  have hr2 : r = rg (fi (a - b)) := by
    have := IsRn.exact (B := B52) (r := rg (fi (a - b))) (D := 1) B52_pos (by decide)
    rw [Nat.mul_one, ← natAbs_val] at this
    exact hr.unique B52_pos (by decide) this
  subst hr2
  have hl : min (rg (fi (a - b))) 9218868437227405312 = rg (fi (a - b)) := by omega
  have hl2 : rg (fi (a - b)) < 9223372036854775808 := by omega
  rw [hl] at e
  rw [fsub_of e]
  refine ⟨e, wd_w hl2, ?_, by rw [wd_rg hl2]; exact c3⟩
  rw [hd, val_eq, wd_rg hl2, wd_neg hl2]
  show (if _ then -((mg B52 (rg (fi (a - b))) : Nat) : Int) else ((mg B52 (rg (fi (a - b))) : Nat) : Int)) = _
  rw [← natAbs_val]
  by_cases h0 : val (fi (a - b)) = 0
  · rw [h0]; simp
  · rw [if_neg h0]
    by_cases hn : val (fi (a - b)) < 0
    · rw [if_pos (by simpa using hn)]; omega
    · rw [if_neg (by simpa using hn)]; omega
/-- The values of a function at 0, 1 .. -/
def rgm (f : Nat → Nat) (n : Nat) : List Nat := (List.range n).map f
theorem rgm_len (f : Nat → Nat) (n : Nat) : (rgm f n).length = n := by unfold rgm; simp
theorem rgm_succ (f : Nat → Nat) (n : Nat) : rgm f (n + 1) = rgm f n ++ [f n] := by unfold rgm; rw [List.range_succ, List.map_append]; rfl
theorem rgm_get (f : Nat → Nat) (n i : Nat) (h : i < (rgm f n).length) : (rgm f n)[i] = f i := by simp [rgm]
theorem rgm_mem {f : Nat → Nat} {n y : Nat} (h : y ∈ rgm f n) : ∃ i, i < n ∧ y = f i := by
  unfold rgm at h
  obtain ⟨i, hi, e⟩ := List.mem_map.1 h
  exact ⟨i, List.mem_range.1 hi, e.symm⟩
theorem rgm_rev (f : Nat → Nat) (n : Nat) : rgm (fun i => f (n - 1 - i)) n = (rgm f n).reverse := by
  apply List.ext_getElem
  · simp [rgm_len]
  · intro i h1 h2
    rw [rgm_get, List.getElem_reverse, rgm_get, rgm_len]
/-- What couples the rows of the chains of SturmTurned. -/
def oAt (q : List Int) (i : Nat) : Nat := if i < q.length then fi (q.getD i 0) else 4607182418800017408
def oTn (q : List Int) (i : Nat) : Nat := if i % 2 = 0 then fneg (oAt q i) else oAt q i
def Smi (l : List Int) : Prop := ∀ y ∈ l, -32768 ≤ y ∧ y ≤ 32767
theorem Smi.at {l : List Int} (h : Smi l) (i : Nat) : -32768 ≤ l.getD i 0 ∧ l.getD i 0 ≤ 32767 := by
  rw [List.getD_eq_getElem?_getD]
  rcases Nat.lt_or_ge i l.length with hi | hi
  · rw [List.getElem?_eq_getElem hi]; exact h _ (List.getElem_mem hi)
  · rw [List.getElem?_eq_none hi]; simp
theorem oAt_ok {q : List Int} (h : Smi q) (i : Nat) : W64 (oAt q i) ∧ rg (oAt q i) < 4845873199050653696 := by
  unfold oAt
  split
  · have := h.at i
    obtain ⟨a1, _, a3⟩ := fi_ok (n := q.getD i 0) (by omega) (by omega)
    exact ⟨a1, a3⟩
  · exact ⟨w_const (by decide), by decide⟩
theorem oTn_ok {q : List Int} (h : Smi q) (i : Nat) : W64 (oTn q i) ∧ rg (oTn q i) < 4845873199050653696 ∧ val (oTn q i) * val (oTn q i) = val (oAt q i) * val (oAt q i) := by
  obtain ⟨a1, a2⟩ := oAt_ok h i
  unfold oTn
  split
  · exact ⟨fneg_w a1, by rw [fneg_rg a1]; exact a2, by rw [fneg_val a1, Int.neg_mul_neg]⟩
  · exact ⟨a1, a2, rfl⟩
def dA (p : List Int) (i : Nat) : Nat := fi (p.getD i 0)
def dB (p : List Int) (n i : Nat) : Nat := fi (p.getD (n - 1 - i) 0)
def dD (p : List Int) (x : Int) (i : Nat) : Nat := fsub (fi (p.getD i 0)) (fi x)
def oB (q : List Int) (n i : Nat) : Nat := oAt q (n - 2 - i)
theorem dA_ok {p : List Int} (h : Smi p) (i : Nat) : W64 (dA p i) ∧ rg (dA p i) < 4845873199050653696 := by
  have := h.at i
  obtain ⟨a1, _, a3⟩ := fi_ok (n := p.getD i 0) (by omega) (by omega)
  exact ⟨a1, a3⟩
theorem dD_ok {p : List Int} (h : Smi p) {x : Int} (h1 : -32768 ≤ x) (h2 : x ≤ 32767) (i : Nat) : double.sub (fi (p.getD i 0)) (fi x) = some (dD p x i) ∧ W64 (dD p x i) ∧ rg (dD p x i) < 4845873199050653696 ∧ val (dD p x i) = val (dA p i) - val (fi x) := by
  have := h.at i
  obtain ⟨a1, a2, a3, a4⟩ := sub_fi (a := p.getD i 0) (b := x) (by omega) (by omega) (by omega) (by omega)
  exact ⟨a1, a2, a4, a3⟩
/-- A chain turned, with other signs, less x. -/
theorem turned {p q : List Int} {x : Int} {n : Nat} (hp : Smi p) (hq : Smi q) (h1 : -32768 ≤ x) (h2 : x ≤ 32767) (n1 : 1 ≤ n) (n2 : n ≤ 20) :
    (wrongE (rgm (dA p) n) (rgm (oAt q) (n - 1)) (fi x) = 0 ∧ wrongE (rgm (dB p n) n) (rgm (oB q n) (n - 1)) (fi x) = 0 ∧ wrongE (rgm (dA p) n) (rgm (oTn q) (n - 1)) (fi x) = 0 ∧ wrongE (rgm (dD p x) n) (rgm (oAt q) (n - 1)) 0 = 0) ∧
    exactN (rgm (dB p n) n) (rgm (oB q n) (n - 1)) (fi x) = exactN (rgm (dA p) n) (rgm (oAt q) (n - 1)) (fi x) ∧ exactN (rgm (dA p) n) (rgm (oTn q) (n - 1)) (fi x) = exactN (rgm (dA p) n) (rgm (oAt q) (n - 1)) (fi x) ∧ exactN (rgm (dD p x) n) (rgm (oAt q) (n - 1)) 0 = exactN (rgm (dA p) n) (rgm (oAt q) (n - 1)) (fi x) := by
  have hx := (fi_ok (n := x) (by omega) (by omega)).2.2
  have bA : ∀ y ∈ rgm (dA p) n, rg y ≤ 6858982232485265408 := fun y hy => by obtain ⟨i, _, rfl⟩ := rgm_mem hy; have := (dA_ok hp i).2; omega
  have bB : ∀ y ∈ rgm (dB p n) n, rg y ≤ 6858982232485265408 := fun y hy => by obtain ⟨i, _, rfl⟩ := rgm_mem hy; have := (dA_ok hp (n - 1 - i)).2; unfold dA at this; unfold dB; omega
  have bD : ∀ y ∈ rgm (dD p x) n, rg y ≤ 6858982232485265408 := fun y hy => by obtain ⟨i, _, rfl⟩ := rgm_mem hy; have := (dD_ok hp h1 h2 i).2.2.1; omega
  have bO : ∀ y ∈ rgm (oAt q) (n - 1), rg y ≤ 6858982232485265408 := fun y hy => by obtain ⟨i, _, rfl⟩ := rgm_mem hy; have := (oAt_ok hq i).2; omega
  have bOB : ∀ y ∈ rgm (oB q n) (n - 1), rg y ≤ 6858982232485265408 := fun y hy => by obtain ⟨i, _, rfl⟩ := rgm_mem hy; have := (oAt_ok hq (n - 2 - i)).2; unfold oB; omega
  have bOT : ∀ y ∈ rgm (oTn q) (n - 1), rg y ≤ 6858982232485265408 := fun y hy => by obtain ⟨i, _, rfl⟩ := rgm_mem hy; have := (oTn_ok hq i).2.1; omega
  obtain ⟨a1, a2⟩ := right_of (x := fi x) (by rw [rgm_len]; omega) (by rw [rgm_len]; omega) (by rw [rgm_len, rgm_len]; omega) bA bO (by omega)
  obtain ⟨b1, b2⟩ := right_of (x := fi x) (by rw [rgm_len]; omega) (by rw [rgm_len]; omega) (by rw [rgm_len, rgm_len]; omega) bB bOB (by omega)
  obtain ⟨c1, c2⟩ := right_of (x := fi x) (by rw [rgm_len]; omega) (by rw [rgm_len]; omega) (by rw [rgm_len, rgm_len]; omega) bA bOT (by omega)
  obtain ⟨d1, d2⟩ := right_of (x := 0) (by rw [rgm_len]; omega) (by rw [rgm_len]; omega) (by rw [rgm_len, rgm_len]; omega) bD bO (by decide)
  refine ⟨⟨a1, b1, c1, d1⟩, ?_, ?_, ?_⟩
  · have e1 : rgm (dB p n) n = (rgm (dA p) n).reverse := rgm_rev (dA p) n
    have e2 : rgm (oB q n) (n - 1) = (rgm (oAt q) (n - 1)).reverse := by
      rw [← rgm_rev]
      unfold oB
      rw [show n - 2 = n - 1 - 1 by omega]
    rw [a2, b2, e1, e2, List.map_reverse, List.map_reverse]
    exact St.cnt_rev _ _ _ (by simp [rgm_len]; omega)
  · rw [a2, c2]
    refine St.cnt_signs _ _ _ _ ?_
    unfold rgm
    rw [List.map_map, List.map_map, List.map_map, List.map_map]
    exact List.map_congr_left (fun i _ => (oTn_ok hq i).2.2)
  · rw [a2, d2]
    have e : (rgm (dD p x) n).map val = ((rgm (dA p) n).map val).map (· - val (fi x)) := by
      unfold rgm
      rw [List.map_map, List.map_map, List.map_map]
      exact List.map_congr_left (fun i _ => (dD_ok hp h1 h2 i).2.2.2)
    rw [e, val0]
    exact St.cnt_move _ _ _
end Go.Proofs.YtfjiojdnbdfenaaDoor


/- A chain in the making: two lists of its own, in a block. -/
namespace Go.Proofs.YtfjiojdnbdfenaaDoor
open Go Go.RowKit Nv GFl Ieee
open Go.Proofs.YtfjiojdnbdfenaaDoorW.PrintWords (own_move own_ne own_lt print_append_cells)
set_option maxRecDepth 100000

structure LW (W w : World) (bq : Nat) (vD vO : Value) (D O : List Nat) : Prop where
  b : Below W.heap.size W w
  q : w.heap[bq]? = some (.cells #[vD, vO] 24 (0, 0))
  d : Ow w W.heap.size vD D
  o : Ow w W.heap.size vO O
  sep : ∀ b, vD.ownBlock = some b → vO.ownBlock ≠ some b
  ne : W.heap.size ≤ bq
theorem LW.drewN {W w : World} {bq : Nat} {vD vO : Value} {D O : List Nat} (h : LW W w bq vD vO D O) (n : Nat) : LW W (w.drewN n) bq vD vO D O := ⟨bl_drewN h.b n, h.q, h.d, h.o, h.sep, h.ne⟩
theorem LW.drew {W w : World} {bq : Nat} {vD vO : Value} {D O : List Nat} (h : LW W w bq vD vO D O) : LW W w.drew bq vD vO D O := ⟨bl_drew h.b, h.q, h.d, h.o, h.sep, h.ne⟩
theorem ow_below {w w' : World} {B : Nat} {v : Value} {l : List Nat} (h : Ow w B v l) (hb : Below w.heap.size w w') : Ow w' B v l := own_move h (fun k hk => hb.block k (own_lt h k hk))
theorem ow_base {w : World} {B B' : Nat} {v : Value} {l : List Nat} (h : Ow w B v l) (hb : B' ≤ B) : Ow w B' v l := by
  obtain ⟨h1, h2⟩ := h
  refine ⟨h1, ?_⟩
  rcases h2 with h2 | ⟨g, cap, cur, e, hg, r⟩
  · exact .inl h2
  · exact .inr ⟨g, cap, cur, e, by omega, r⟩
theorem LW.below {W w w' : World} {bq : Nat} {vD vO : Value} {D O : List Nat} (h : LW W w bq vD vO D O) (hb : Below w.heap.size w w') : LW W w' bq vD vO D O := ⟨bl_then h.b hb, kb_keep hb h.q, ow_below h.d hb, ow_below h.o hb, h.sep, h.ne⟩
theorem LW.appO {W w w1 : World} {bq : Nat} {vD vO v1 : Value} {D O : List Nat} {x : Nat} (h : LW W w bq vD vO D O) (hown : w1.ownsRow W.heap.size 25 1 v1 (O.length + 1) (O.map (Value.float .f64) ++ [.float .f64 x])) (hb : Below W.heap.size W w1) (hg : w.grownBy w1 vO.ownBlock)
    (hat : v1.ownBlock = vO.ownBlock ∨ ∃ b, v1.ownBlock = some b ∧ w.heap.size ≤ b) : w1.heap[bq]? = some (.cells #[vD, vO] 24 (0, 0)) ∧ LW W (w1.setCell ⟨bq, 1, none⟩ v1) bq vD v1 D (O ++ [x]) := by
  have q1 : w1.heap[bq]? = some (.cells #[vD, vO] 24 (0, 0)) := (hg.block bq (kb_lt h.q) (own_ne h.o h.q f_ne)).trans h.q
  have hown2 : Ow w1 W.heap.size v1 (O ++ [x]) := by unfold Ow; rw [List.length_append, List.map_append]; exact hown
  have hne := h.ne
  refine ⟨q1, hb.setCell (p := ⟨bq, 1, none⟩) hne v1, ?_, ?_, ?_, ?_, hne⟩
  · exact heap_set q1 1 v1
  · refine own_move h.d (fun k hk => ?_)
    have hlt := own_lt h.d k hk
    rw [Below.heap_setCell _ _ _ _ (show k ≠ bq from fun e => own_ne h.d h.q f_ne (by rw [hk, e]))]
    exact hg.block k hlt (fun e => h.sep k hk e.symm)
  · exact own_move hown2 (fun k hk => Below.heap_setCell _ _ _ _ (fun e => own_ne hown2 q1 f_ne (by rw [hk]; exact congrArg some e.symm)))
  · intro b hb1 hb2
    rcases hat with hat | ⟨b', hb', hle⟩
    · exact h.sep b hb1 (by rw [← hat]; exact hb2)
    · rw [hb'] at hb2
      injection hb2 with hb2
      have := own_lt h.d b hb1
      omega
end Go.Proofs.YtfjiojdnbdfenaaDoor


/- Several chains in the making: each in a block, each of its lists in one of its own. -/
namespace Go.Proofs.YtfjiojdnbdfenaaDoor
open Go Go.RowKit Nv GFl Ieee
open Go.Proofs.YtfjiojdnbdfenaaDoorW.PrintWords (own_move own_ne own_lt print_append_cells)
set_option maxRecDepth 100000

abbrev nl : Value := .slice none 0 0
structure QW (W w : World) (qs : List Nat) (vs : List Value) (ls : List (List Nat)) : Prop where
  b : Below W.heap.size W w
  q : ∀ j (h : j < qs.length), w.heap[qs[j]]? = some (.cells #[vs.getD (2 * j) nl, vs.getD (2 * j + 1) nl] 24 (0, 0)) ∧ W.heap.size ≤ qs[j]
  nd : ∀ i j (hi : i < qs.length) (hj : j < qs.length), i ≠ j → qs[i] ≠ qs[j]
  r : ∀ i, i < 2 * qs.length → Ow w W.heap.size (vs.getD i nl) (ls.getD i [])
  sep : ∀ i j, i < 2 * qs.length → j < 2 * qs.length → i ≠ j → ∀ k, (vs.getD i nl).ownBlock = some k → (vs.getD j nl).ownBlock ≠ some k
  hv : vs.length = 2 * qs.length
  hl : ls.length = 2 * qs.length
theorem lgetD_set_eq {α : Type} {l : List α} {i : Nat} {x d : α} (h : i < l.length) : (l.set i x).getD i d = x := by
  rw [List.getD_eq_getElem?_getD, List.getElem?_set_self h]; rfl
theorem lgetD_set_ne {α : Type} {l : List α} {i j : Nat} {x d : α} (h : i ≠ j) : (l.set i x).getD j d = l.getD j d := by
  rw [List.getD_eq_getElem?_getD, List.getElem?_set_ne h, List.getD_eq_getElem?_getD]
theorem QW.drewN {W w : World} {qs : List Nat} {vs : List Value} {ls : List (List Nat)} (h : QW W w qs vs ls) (n : Nat) : QW W (w.drewN n) qs vs ls := ⟨bl_drewN h.b n, h.q, h.nd, h.r, h.sep, h.hv, h.hl⟩
theorem QW.drew {W w : World} {qs : List Nat} {vs : List Value} {ls : List (List Nat)} (h : QW W w qs vs ls) : QW W w.drew qs vs ls := ⟨bl_drew h.b, h.q, h.nd, h.r, h.sep, h.hv, h.hl⟩
theorem QW.below {W w w' : World} {qs : List Nat} {vs : List Value} {ls : List (List Nat)} (h : QW W w qs vs ls) (hb : Below w.heap.size w w') : QW W w' qs vs ls :=
  ⟨bl_then h.b hb, fun j hj => ⟨kb_keep hb (h.q j hj).1, (h.q j hj).2⟩, h.nd, fun i hi => ow_below (h.r i hi) hb, h.sep, h.hv, h.hl⟩
theorem QW.app {W w w1 : World} {qs : List Nat} {vs : List Value} {ls : List (List Nat)} (h : QW W w qs vs ls) {j c x : Nat} {v1 : Value} (hj : j < qs.length) (hc : c < 2)
    (hown : w1.ownsRow W.heap.size 25 1 v1 ((ls.getD (2 * j + c) []).length + 1) ((ls.getD (2 * j + c) []).map (Value.float .f64) ++ [.float .f64 x])) (hb : Below W.heap.size W w1) (hg : w.grownBy w1 (vs.getD (2 * j + c) nl).ownBlock)
    (hat : v1.ownBlock = (vs.getD (2 * j + c) nl).ownBlock ∨ ∃ b, v1.ownBlock = some b ∧ w.heap.size ≤ b) :
    (∀ i (hi : i < qs.length), w1.heap[qs[i]]? = some (.cells #[vs.getD (2 * i) nl, vs.getD (2 * i + 1) nl] 24 (0, 0))) ∧ QW W (w1.setCell ⟨qs[j], c, none⟩ v1) qs (vs.set (2 * j + c) v1) (ls.set (2 * j + c) (ls.getD (2 * j + c) [] ++ [x])) := by
  have hv := h.hv
  have hl := h.hl
  have hk : 2 * j + c < 2 * qs.length := by omega
  have q1 : ∀ i (hi : i < qs.length), w1.heap[qs[i]]? = some (.cells #[vs.getD (2 * i) nl, vs.getD (2 * i + 1) nl] 24 (0, 0)) := fun i hi =>
    (hg.block _ (kb_lt (h.q i hi).1) (own_ne (h.r _ hk) (h.q i hi).1 f_ne)).trans (h.q i hi).1
  have hown2 : Ow w1 W.heap.size v1 (ls.getD (2 * j + c) [] ++ [x]) := by unfold Ow; rw [List.length_append, List.map_append]; exact hown
  refine ⟨q1, hb.setCell (p := ⟨qs[j], c, none⟩) (h.q j hj).2 v1, ?_, h.nd, ?_, ?_, by simpa using hv, by simpa using hl⟩
  · intro i hi
    refine ⟨?_, (h.q i hi).2⟩
    by_cases e : i = j
    · subst e
      rw [heap_set (q1 i hi) c v1]
      rcases (show c = 0 ∨ c = 1 by omega) with rfl | rfl
      · rw [show 2 * i + 0 = 2 * i from rfl, lgetD_set_eq (by omega), lgetD_set_ne (by omega)]; rfl
      · rw [lgetD_set_eq (by omega), lgetD_set_ne (by omega)]; rfl
    · rw [Below.heap_setCell _ _ _ _ (h.nd i j hi hj e), q1 i hi, lgetD_set_ne (by omega), lgetD_set_ne (by omega)]
  · intro i hi
    by_cases e : i = 2 * j + c
    · subst e
      rw [lgetD_set_eq (by omega), lgetD_set_eq (by omega)]
      exact own_move hown2 (fun k hk => Below.heap_setCell _ _ _ _ (fun e => own_ne hown2 (q1 j hj) f_ne (by rw [hk]; exact congrArg some e.symm)))
    · rw [lgetD_set_ne (Ne.symm e), lgetD_set_ne (Ne.symm e)]
      refine own_move (h.r i hi) (fun k hk => ?_)
      have hlt := own_lt (h.r i hi) k hk
      rw [Below.heap_setCell _ _ _ _ (show k ≠ qs[j] from fun e => own_ne (h.r i hi) (h.q j hj).1 f_ne (by rw [hk, e]))]
      exact hg.block k hlt (fun e2 => h.sep i (2 * j + c) hi (by omega) e k hk e2.symm)
  · have key : ∀ i, i < 2 * qs.length → i ≠ 2 * j + c → ∀ k, (vs.getD i nl).ownBlock = some k → v1.ownBlock ≠ some k := fun i hi e k hk1 hk2 => by
      rcases hat with hat | ⟨b', hb', hle⟩
      · exact h.sep i (2 * j + c) hi (by omega) e k hk1 (by rw [← hat]; exact hk2)
      · rw [hb'] at hk2
        injection hk2 with hk2
        have := own_lt (h.r i hi) k hk1
        omega
    intro i i' hi hi' hne k hk1 hk2
    by_cases e : i = 2 * j + c
    · subst e
      rw [lgetD_set_eq (by omega)] at hk1
      rw [lgetD_set_ne hne] at hk2
      exact key i' hi' (Ne.symm hne) k hk2 hk1
    · rw [lgetD_set_ne (Ne.symm e)] at hk1
      by_cases e' : i' = 2 * j + c
      · subst e'
        rw [lgetD_set_eq (by omega)] at hk2
        exact key i hi e k hk1 hk2
      · rw [lgetD_set_ne (Ne.symm e')] at hk2
        exact h.sep i i' hi hi' hne k hk1 hk2
end Go.Proofs.YtfjiojdnbdfenaaDoor


/- Lists of small whole numbers. -/
namespace Go.Proofs.YtfjiojdnbdfenaaDoor
open Go Go.RowKit Nv GFl Ieee
set_option maxRecDepth 100000

def Is (w : World) (A : Option Addr) (l : List Int) : Prop := l.length ≤ 9223372036854775807 ∧ (0 < l.length → ∃ ad, A = some ad ∧ ∀ i (hi : i < l.length), w.cell? (ad.add i) = some (.int .i16 l[i]))
theorem Is.below {w w' : World} {A : Option Addr} {l : List Int} (h : Is w A l) (hb : Below w.heap.size w w') : Is w' A l :=
  ⟨h.1, fun h0 => (h.2 h0).imp fun _ hx => ⟨hx.1, fun i hi => (hb.cell (World.block_lt_of_cell? w _ (hx.2 i hi))).trans (hx.2 i hi)⟩⟩
theorem Is.at {w : World} {A : Option Addr} {l : List Int} (h : Is w A l) {i : Nat} (hi : i < l.length) : ∃ ad, A = some ad ∧ w.cell? (ad.add i) = some (.int .i16 l[i]) := by
  obtain ⟨ad, e, hc⟩ := h.2 (by omega)
  exact ⟨ad, e, hc i hi⟩
end Go.Proofs.YtfjiojdnbdfenaaDoor


/- Slices of lists of floats; a chain's blocks. -/
namespace Go.Proofs.YtfjiojdnbdfenaaDoor
open Go Go.RowKit Nv GFl Ieee
open Go.Proofs.YtfjiojdnbdfenaaDoorW.PrintWords (own_move own_ne own_lt print_append_cells Kd print_cut_of)
set_option maxRecDepth 100000

theorem cut_top {P : Program} (t e : TypeId) (kh : IntKind) {i : TypeInfo} (ht : P.underlying t = some (.slice e)) (hi : P.info? e = some i) (A : Option Addr) (n c : Nat) (j : Int) (h0 : 0 ≤ j) (hm : j ≤ c) :
    ∀ W : World, (Instr.slice t (.slice A n c) none (some (.int kh j)) none).run P W = .ok (.slice A j.toNat c) W := by
  intro W
  have hel : P.elem t = e := by simp [Program.elem, ht]
  have hu : P.underlying t = some (.slice (P.elem t)) := by rw [hel]; exact ht
  have ha : (A.map fun x => x.add 0) = A := by cases A <;> simp [Addr.add]
  rw [run_slice_h W t A n c hu kh j h0 (by omega), hel]
  simp [sizeOf, typeInfo, hi, sliced, Result.andThen, ha]
theorem Fl.take_ {w : World} {A : Option Addr} {l : List Nat} (h : Fl w A l) (k : Nat) : Fl w A (l.take k) := by
  have hl : l.length ≤ 9223372036854775807 := h.2.1
  refine Fl.mk (by simp; omega) (fun h0 => ?_)
  obtain ⟨ad, e, _⟩ := h.at (i := 0) (by simp at h0; omega)
  refine ⟨ad, e, fun i hi => ?_⟩
  simp at hi
  obtain ⟨ad', e', hc⟩ := h.at (i := i) (by omega)
  rw [e] at e'
  injection e' with e'
  subst e'
  rw [hc]; simp
theorem Fl.top (A : Option Addr) (n c k : Nat) (hk : k ≤ c) : ∀ W : World, (Instr.slice 22 (.slice A n c) none (some (.int .i64 (k : Int))) none).run Tryd.prog W = .ok (.slice A k c) W := by
  obtain ⟨i, hi, hs⟩ := f_info1
  have := cut_top (P := Tryd.prog) 22 25 .i64 Tryd.underlying22 hi A n c (k : Int) (by omega) (by omega)
  simpa using this
theorem Fl.low (A : Option Addr) (n c k : Nat) (hk : k ≤ n) (hc : n ≤ c) : ∃ A' c', (∀ W : World, (Instr.slice 22 (.slice A n c) (some (.int .i64 (k : Int))) none none).run Tryd.prog W = .ok (.slice A' (n - k) c') W) ∧ (∀ (w : World) (l : List Nat), l.length = n → Fl w A l → Fl w A' (l.drop k)) ∧ n - k ≤ c' := by
  obtain ⟨i, hi, hs⟩ := f_info1
  obtain ⟨A', k1, k2⟩ := print_cut_of (P := Tryd.prog) (Value.float .f64) 0 22 25 .i64 Tryd.underlying22 hi hs A n c k hk
  refine ⟨A', c - k, k1, fun w l hl h => ?_, by omega⟩
  subst hl
  have := k2 w l hc (Kd.reads_of_C (d := (0 : Nat)) h)
  rw [← List.length_drop] at this
  exact Kd.C_of_reads this
theorem heap_other' {w : World} {g k : Nat} (h : k ≠ g) (i : Nat) (u : Value) : (w.setCell ⟨g, i, none⟩ u).heap[k]? = w.heap[k]? := by
  simp [World.setCell, Array.getElem?_modify, Ne.symm h]
theorem LW.setO {W w : World} {bq g cO n : Nat} {vD : Value} {D O : List Nat} {k y : Nat} (h : LW W w bq vD (.slice (some ⟨g, 0, none⟩) n cO) D O) (hl : O.length = n) : LW W (w.setCell ⟨g, k, none⟩ (.float .f64 y)) bq vD (.slice (some ⟨g, 0, none⟩) n cO) D (O.set k y) := by
  subst hl
  have ob : (Value.slice (some ⟨g, 0, none⟩) O.length cO).ownBlock = some g := rfl
  have hg : W.heap.size ≤ g := Go.Proofs.YtfjiojdnbdfenaaDoorW.PrintWords.own_base h.o g ob
  have hq : bq ≠ g := fun e => own_ne h.o h.q f_ne (by rw [ob, e])
  refine ⟨h.b.setCell (p := ⟨g, k, none⟩) hg _, (heap_other' hq k _).trans h.q, own_move h.d (fun k' hk' => heap_other' (fun e => h.sep k' hk' (by rw [ob, e])) k _), ?_, h.sep, h.ne⟩
  have := Go.Proofs.YtfjiojdnbdfenaaDoorW.PrintWords.own_put_of (enc := Value.float .f64) (xs := O) h.o (k : Int) y
  exact this
theorem LW.off {W w : World} {bq n : Nat} {vD vO : Value} {D O : List Nat} (h : LW W w bq vD vO D O) (hl : O.length = n) (h0 : 0 < n) : ∃ g c, vO = .slice (some ⟨g, 0, none⟩) n c ∧ n ≤ c := by
  obtain ⟨A, c, e, hc, f⟩ := ow_sl h.o
  have ho := h.o
  obtain ⟨h1, h2⟩ := ho
  rcases h2 with h2 | ⟨g, cap, cur, e2, _⟩
  · exact absurd h2.2 (by omega)
  · rw [e] at e2
    injection e2 with e3 e4 e5
    subst e3
    rw [hl] at e hc
    exact ⟨g, c, e, hc⟩
theorem LW.frz {W w : World} {bq n g c : Nat} {vD : Value} {D O : List Nat} (h : LW W w bq vD (.slice (some ⟨g, 0, none⟩) n c) D O) (hl : O.length = n) (k : Nat) (hk : k < n) : w.frozen? ⟨g, k, none⟩ = false ∧ ∃ y, w.cell? ⟨g, k, none⟩ = some (.float .f64 y) := by
  have ho := h.o
  unfold Ow at ho
  rw [hl] at ho
  obtain ⟨h1, h2⟩ := Go.Proofs.YtfjiojdnbdfenaaDoorW.PrintWords.own_at_of (enc := Value.float .f64) (d := 0) (xs := O) ho (k : Int) (by omega) (by omega)
  exact ⟨h2, _, h1⟩
/-- Three chains told, each in a block of its own. -/
structure PT (W w : World) (b0 b1 b2 : Nat) (c0 c1 c2 : Array Value) : Prop where
  b : Below W.heap.size W w
  k0 : w.heap[b0]? = some (.cells c0 24 (0, 0))
  k1 : w.heap[b1]? = some (.cells c1 24 (0, 0))
  k2 : w.heap[b2]? = some (.cells c2 24 (0, 0))
theorem PT.then {W w w' : World} {b0 b1 b2 : Nat} {c0 c1 c2 : Array Value} (h : PT W w b0 b1 b2 c0 c1 c2) (hb : Below w.heap.size w w') : PT W w' b0 b1 b2 c0 c1 c2 := ⟨bl_then h.b hb, kb_keep hb h.k0, kb_keep hb h.k1, kb_keep hb h.k2⟩
theorem new_chain (w : World) (s0 s1 : Value) : Below w.heap.size w ((((w.alloc (.cells #[.slice none 0 0, .slice none 0 0] 24)).drew).setCell ⟨w.heap.size, 0, none⟩ s0).setCell ⟨w.heap.size, 1, none⟩ s1) ∧ ((((w.alloc (.cells #[.slice none 0 0, .slice none 0 0] 24)).drew).setCell ⟨w.heap.size, 0, none⟩ s0).setCell ⟨w.heap.size, 1, none⟩ s1).heap[w.heap.size]? = some (.cells #[s0, s1] 24 (0, 0)) := by
  have k := kb_new (w := w) (o := .cells #[.slice none 0 0, .slice none 0 0] 24) (bl_drew (Below.refl _ _))
  exact ⟨bl_set (bl_set (bl_drew (bl_alloc (Below.refl _ _) _)) _ (by simp)) _ (by simp), heap_set (heap_set k 0 s0) 1 s1⟩
end Go.Proofs.YtfjiojdnbdfenaaDoor


/- A region that draws its order, more: a load whose value goes a longer way to the writing call. -/
namespace Go.Proofs.YtfjiojdnbdfenaaDoor
open Go
section
variable {P : Program} {ops : Array Oper} {Q : Exit → Act → World → Prop} {md : Region.Mode} {S : World → Prop} {g : Nat}
/-- Each waits for the one ahead of it. -/
def chainW (md : Region.Mode) (ops : Array Oper) : Nat → List Nat → Bool
  | _, [] => true
  | i, c :: r => Waits md ops c i && chainW md ops c r
theorem chainW.not_ready {listed : Array Bool} : ∀ (cs : List Nat) (i : Nat), chainW md ops i cs = true → listed.getD i true = false → (∀ c ∈ cs, listed.getD c true = false) → ∀ c ∈ cs, c ∉ Region.ready md ops listed
  | [], _, _, _, _, _, h => by cases h
  | c :: r, i, hw, hi, hc, d, hd => by
    unfold chainW at hw
    simp only [Bool.and_eq_true] at hw
    rcases List.mem_cons.1 hd with rfl | hd
    · exact Waits.not_ready hw.1 hi
    · exact chainW.not_ready r c hw.2 (hc c (by simp)) (fun x hx => hc x (by simp [hx])) d hd
theorem wpG_loadC {i : Nat} (cs : List Nat) {oi : Oper} {v : Value} (hgi : i ≠ g) (hcs : chainW md ops i cs = true) (hgc : g ∈ cs) (hi : ops[i]? = some oi) (hsel : ∀ (j : Nat) (o : Oper) cs b, ops[j]? = some o → o.op ≠ .select cs b)
    (hQ : ∀ c a w, Q (.panic c) (a.put oi.dst v) w → Q (.panic c) a w) :
    ∀ (fuel : Nat) (listed : Array Bool) (a : Act) (w : World),
      (∀ j oj, ops[j]? = some oj → j ≠ i → listed.getD j true = false → (∀ e ∈ oj.after, Region.binds md e = true → e.on ≠ i) → oi.apart ops oj = true) →
      i ∈ Region.ready md ops listed → (∀ c ∈ cs, listed.getD c true = false) → YieldsIf P ops S oi v a → S w →
      wpG P md ops Q S g fuel (listed.setIfInBounds i true) (a.put oi.dst v) w → wpG P md ops Q S g (fuel + 1) listed a w := by
  intro fuel
  induction fuel with
  | zero =>
    intro listed a w _ hr hc hy hS H
    refine ⟨fun h => (by rw [h] at hr; cases hr), fun j hj => ?_⟩
    by_cases hji : j = i
    · subst hji; exact hy.wpOp hi hS ⟨.inr hS, H⟩
    · have := ready_mono hj hji
      rw [H.1] at this
      cases this
  | succ fuel ih =>
    intro listed a w hfree hr hc hy hS H
    refine ⟨fun h => (by rw [h] at hr; cases hr), fun j hj => ?_⟩
    by_cases hji : j = i
    · subst hji; exact hy.wpOp hi hS ⟨.inr hS, H⟩
    · have h1 := H.2 j (ready_mono hj hji)
      have hun := (mem_ready.1 hr).1
      have hjc : ∀ c ∈ cs, j ≠ c := fun c hc' h => chainW.not_ready cs i hcs hun hc c hc' (h ▸ hj)
      have hjg : j ≠ g := hjc g hgc
      obtain ⟨hjun, oj, hoj, hall⟩ := mem_ready.1 hj
      have hnot : ∀ e ∈ oj.after, Region.binds md e = true → e.on ≠ i := fun e he hb heq => by
        have h1 := hall e he hb
        rw [heq] at h1
        rcases Nat.lt_or_ge i listed.size with h' | h'
        · simp [h'] at hun h1; rw [hun] at h1; cases h1
        · simp [Array.getElem?_eq_none h'] at h1
      have h2 := wpOp_putIf hoj (hfree j oj hoj hji hjun hnot) (fun cs b => hsel i oi cs b hi) (fun cs b => hsel j oj cs b hoj) hQ hy h1
      have hfree' : ∀ k ok, ops[k]? = some ok → k ≠ i → (listed.setIfInBounds j true).getD k true = false →
          (∀ e ∈ ok.after, Region.binds md e = true → e.on ≠ i) → oi.apart ops ok = true := fun k ok hk hki hun hno => by
        refine hfree k ok hk hki ?_ hno
        by_cases hjk : j = k
        · subst hjk; exact hjun
        · rw [getD_set_ne true hjk] at hun; exact hun
      refine wpOp_mono (fun a' w' h3 => ?_) h2
      have e : (listed.setIfInBounds j true).setIfInBounds i true = (listed.setIfInBounds i true).setIfInBounds j true := Array.setIfInBounds_comm _ _ hji
      have hS2 : S w' := by
        rcases h3.2.1 with h4 | h4
        · rw [← e, getD_set_ne true hgi, getD_set_ne true hjg, hc g hgc] at h4; cases h4
        · exact h4
      exact ⟨.inr hS2, ih (listed.setIfInBounds j true) a' w' hfree' (ready_mono hr (Ne.symm hji)) (fun c hc' => by rw [getD_set_ne true (hjc c hc')]; exact hc c hc') h3.1 hS2 (by rw [e]; exact h3.2.2)⟩
theorem wpG_ldC {i : Nat} (cs : List Nat) {oi : Oper} {v : Value} {fuel : Nat} {listed : Array Bool} {a : Act} {w : World} (hi : ops[i]? = some oi) (hgi : (i != g) = true)
    (hs : Region.noSelect ops = true) (hf : Region.free md ops listed i = true) (hr : (Region.ready md ops listed).contains i = true)
    (hw : (chainW md ops i cs && cs.contains g && cs.all (fun c => !(listed.getD c true))) = true)
    (hQ : ∀ c a w, Q (.panic c) (a.put oi.dst v) w → Q (.panic c) a w) (hy : YieldsIf P ops S oi v a) (hS : S w)
    (h : wpG P md ops Q S g fuel (listed.setIfInBounds i true) (a.put oi.dst v) w) : wpG P md ops Q S g (fuel + 1) listed a w := by
  simp only [Bool.and_eq_true, List.all_eq_true, Bool.not_eq_true'] at hw
  exact wpG_loadC cs (by simpa using hgi) hw.1.1 (by simpa using hw.1.2) hi (Region.noSelect_spec hs) hQ fuel listed a w (Region.free_spec hi hf) (by simpa using hr) (fun c hc => hw.2 c hc) hy hS h
end
end Go.Proofs.YtfjiojdnbdfenaaDoor


/- girderlaw17.SturmTurned: the walk. -/
namespace Go.Proofs.YtfjiojdnbdfenaaDoor
open Go Go.RowKit Nv GFl Ieee
open Go.Proofs.YtfjiojdnbdfenaaDoorW.PrintWords (own_move own_ne own_lt print_append_cells step_append_cells)
set_option maxRecDepth 100000
set_option linter.unusedSimpArgs false

abbrev nilQ : Obj := .cells #[.slice none 0 0, .slice none 0 0] 24
theorem kb_cellA {w : World} {a : Addr} {v : Value} (h : w.cell? a = some v) (o : Obj) : (w.alloc o).cell? a = some v := ((bl_alloc (Below.refl _ _) o).cell (World.block_lt_of_cell? w _ h)).trans h
theorem cb {W w : World} {a : Addr} {v : Value} (hb : Below W.heap.size W w) (h : W.cell? a = some v) : w.cell? a = some v := (hb.cell (World.block_lt_of_cell? W _ h)).trans h
theorem QW.fin {W w : World} {qs : List Nat} {vs : List Value} {ls : List (List Nat)} (h : QW W w qs vs ls) {j : Nat} (hj : j < qs.length) (u : Value) :
    (∀ i, i < 2 * qs.length → Ow (w.setCell ⟨qs[j], 0, none⟩ u) W.heap.size (vs.getD i nl) (ls.getD i [])) ∧ Below W.heap.size W (w.setCell ⟨qs[j], 0, none⟩ u) ∧ (∀ i (hi : i < qs.length), i ≠ j → (w.setCell ⟨qs[j], 0, none⟩ u).heap[qs[i]]? = w.heap[qs[i]]?) ∧ (w.setCell ⟨qs[j], 0, none⟩ u).heap[qs[j]]? = some (.cells #[u, vs.getD (2 * j + 1) nl] 24 (0, 0)) := by
  refine ⟨fun i hi => ?_, h.b.setCell (p := ⟨qs[j], 0, none⟩) (h.q j hj).2 u, fun i hi hne => heap_other' (h.nd i j hi hj hne) 0 u, heap_set (h.q j hj).1 0 u⟩
  exact own_move (h.r i hi) (fun k hk => heap_other' (fun e => own_ne (h.r i hi) (h.q j hj).1 f_ne (by rw [hk, e])) 0 u)
theorem fl_of {w : World} {B m c : Nat} {A : Option Addr} {l : List Nat} (_ : l.length = m) (h : Ow w B (.slice A m c) l) : Fl w A l := by
  obtain ⟨A', c', e, _, f⟩ := ow_sl h
  have : A = A' := by injection e
  rw [this]; exact f
/-- Four chains told. -/
structure PQ (W w : World) (b0 b1 b2 b3 : Nat) (c0 c1 c2 c3 : Array Value) : Prop where
  b : Below W.heap.size W w
  k0 : w.heap[b0]? = some (.cells c0 24 (0, 0))
  k1 : w.heap[b1]? = some (.cells c1 24 (0, 0))
  k2 : w.heap[b2]? = some (.cells c2 24 (0, 0))
  k3 : w.heap[b3]? = some (.cells c3 24 (0, 0))
theorem PQ.then {W w w' : World} {b0 b1 b2 b3 : Nat} {c0 c1 c2 c3 : Array Value} (h : PQ W w b0 b1 b2 b3 c0 c1 c2 c3) (hb : Below w.heap.size w w') : PQ W w' b0 b1 b2 b3 c0 c1 c2 c3 := ⟨bl_then h.b hb, kb_keep hb h.k0, kb_keep hb h.k1, kb_keep hb h.k2, kb_keep hb h.k3⟩
theorem qw_new {W w : World} (hb : Below W.heap.size W w) : QW W ((((w.alloc nilQ).alloc nilQ).alloc nilQ).alloc nilQ) [w.heap.size, w.heap.size + 1, w.heap.size + 1 + 1, w.heap.size + 1 + 1 + 1] [nl, nl, nl, nl, nl, nl, nl, nl] [[], [], [], [], [], [], [], []] := by
  have hg : ∀ i, ([nl, nl, nl, nl, nl, nl, nl, nl] : List Value).getD i nl = nl := fun i => by
    rw [show ([nl, nl, nl, nl, nl, nl, nl, nl] : List Value) = List.replicate 8 nl from rfl, List.getD_eq_getElem?_getD, List.getElem?_replicate]; split <;> rfl
  have hl : ∀ i, ([[], [], [], [], [], [], [], []] : List (List Nat)).getD i [] = [] := fun i => by
    rw [show ([[], [], [], [], [], [], [], []] : List (List Nat)) = List.replicate 8 [] from rfl, List.getD_eq_getElem?_getD, List.getElem?_replicate]; split <;> rfl
  have hq : ∀ i (h : i < 4), [w.heap.size, w.heap.size + 1, w.heap.size + 1 + 1, w.heap.size + 1 + 1 + 1][i]'h = w.heap.size + i := fun i h => by
    match i, h with
    | 0, _ => rfl
    | 1, _ => rfl
    | 2, _ => rfl
    | 3, _ => rfl
  have k0 := kb_new (w := w) (o := nilQ) (Below.refl _ _)
  have k1 := kb_new (w := w.alloc nilQ) (o := nilQ) (Below.refl _ _)
  have k2 := kb_new (w := (w.alloc nilQ).alloc nilQ) (o := nilQ) (Below.refl _ _)
  have k3 := kb_new (w := ((w.alloc nilQ).alloc nilQ).alloc nilQ) (o := nilQ) (Below.refl _ _)
  have s1 : (w.alloc nilQ).heap.size = w.heap.size + 1 := by simp
  have s2 : ((w.alloc nilQ).alloc nilQ).heap.size = w.heap.size + 2 := by simp
  have s3 : (((w.alloc nilQ).alloc nilQ).alloc nilQ).heap.size = w.heap.size + 3 := by simp
  rw [s1] at k1
  rw [s2] at k2
  rw [s3] at k3
  have hs := hb.size
  refine ⟨bl_alloc (bl_alloc (bl_alloc (bl_alloc hb _) _) _) _, fun j hj => ?_, fun i j hi hj hne => ?_, fun i _ => ?_, fun i j _ _ _ k hk => ?_, rfl, rfl⟩
  · have hj4 : j < 4 := hj
    rw [hg, hg, hq j hj4]
    refine ⟨?_, by omega⟩
    rcases (show j = 0 ∨ j = 1 ∨ j = 2 ∨ j = 3 by omega) with rfl | rfl | rfl | rfl
    · exact kb_alloc (kb_alloc (kb_alloc k0))
    · exact kb_alloc (kb_alloc k1)
    · exact kb_alloc k2
    · exact k3
  · rw [hq i hi, hq j hj]; omega
  · rw [hg, hl]; exact World.ownsRow_nil _ _ _ _
  · rw [hg] at hk; simp [nl, Value.ownBlock] at hk
attribute [local go_sem] run_neg_f64
set_option maxHeartbeats 16000000 in
theorem sturmTurned_c {W : World} (A : Option Addr) (cA : Nat) (p : List Int) (B : Option Addr) (cB : Nat) (q : List Int) (x : Int) (_hA : p.length ≤ cA) (hp : Is W A p) (sp : Smi p) (_hB : q.length ≤ cB) (hq : Is W B q) (sq : Smi q) (x1 : -32768 ≤ x) (x2 : x ≤ 32767) (hT : Tab W) :
    Calls Tryd.prog 8 #[.slice A p.length cA, .slice B q.length cB, .int .i16 x] W fun e w' => e = .returned (.bool true) ∧ Below W.heap.size W w' := by
  have aw : ∀ w, Below W.heap.size W w → Calls Tryd.prog 11 #[] w fun e w' => e = .returned (.bool true) ∧ Below w.heap.size w w' := fun w h => awake_c w (hT.below h)
  have B0 := Lib.hid (Below.refl W.heap.size W)
  have AW := Lib.hid aw
  obtain ⟨n, hn⟩ : ∃ n : Nat, min p.length 20 = n := ⟨_, rfl⟩
  have hn1 : min (p.length : Int) 20 = (n : Int) := by omega
  have n1 : n ≤ p.length := by omega
  have n2 : n ≤ 20 := by omega
  have HN := Lib.hid hn
  have HP := Lib.hid hp
  have HQ := Lib.hid hq
  have SP := Lib.hid sp
  have SQ := Lib.hid sq
  have HT := Lib.hid hT
  clear aw hn hp hq sp sq hT
  by_cases h0 : n = 0
  · have k1 : ((n : Int) == 0) = true := by simpa using h0
    clear h0
    go_enter Tryd.func8, Tryd.ntmps8
    go_wp2_with (first
      | (go_at_call 11; (with_reducible refine (AW.out _ B0.out).mono ?_); rintro e w1 ⟨rfl, hb⟩; have B0 := Lib.hid (bl_then B0.out hb); clear hb))
    go_ret
    exact ⟨rfl, by first | exact B0.out | exact bl_drewN B0.out _⟩
  · have k1 : ((n : Int) == 0) = false := by simpa using h0
    go_enter Tryd.func8, Tryd.ntmps8
    go_wp2_with (first
      | (go_at_call 11; (with_reducible refine (AW.out _ B0.out).mono ?_); rintro e w1 ⟨rfl, hb⟩; have B0 := Lib.hid (bl_then B0.out hb); clear hb))
    have QN := Lib.hid (qw_new B0.out)
    obtain ⟨qa, hqa⟩ : ∃ b, w1.heap.size = b := ⟨_, rfl⟩
    simp only [hqa] at QN
    simp only [hqa]
    obtain ⟨qb, hqb⟩ : ∃ b, qa + 1 = b := ⟨_, rfl⟩
    simp only [hqb] at QN
    simp only [hqb]
    obtain ⟨qc, hqc⟩ : ∃ b, qb + 1 = b := ⟨_, rfl⟩
    simp only [hqc] at QN
    simp only [hqc]
    obtain ⟨qe, hqe⟩ : ∃ b, qc + 1 = b := ⟨_, rfl⟩
    simp only [hqe] at QN
    simp only [hqe]
    clear hqa hqb hqc hqe
    go_loopw [12] (fun v12 wr => ∃ (i : Nat) (va vb vd : Value), v12 = .int .i64 i ∧ i ≤ n ∧ Hid (QW W wr [qa, qb, qc, qe] [va, nl, vb, nl, nl, nl, vd, nl] [(rgm (dA p) i), [], (rgm (dB p n) i), [], [], [], (rgm (dD p x) i), []])) (fun v _ => n - (intOf v).toNat)
    case atStart => exact ⟨0, nl, nl, nl, rfl, Nat.zero_le _, Lib.hid QN.out⟩
    case round =>
      obtain ⟨i, va, vb, vd, rfl, hi, hq⟩ := hrel
      clear QN B0
      by_cases hlt : i < n
      · have l1 : decide (i < n) = true := decide_eq_true hlt
        have ip : i < p.length := by omega
        have ir : n - 1 - i < p.length := by omega
        obtain ⟨ad, hA2, m0⟩ := HP.out.at ip
        obtain ⟨ad', hA3, m1⟩ := HP.out.at ir
        subst hA2
        injection hA3 with hA3
        subst hA3
        have ea : dA p i = floatOfInt .f64 p[i] := by unfold dA fi; rw [List.getD_eq_getElem?_getD, List.getElem?_eq_getElem ip]; rfl
        have eb : dB p n i = floatOfInt .f64 p[n - 1 - i] := by unfold dB fi; rw [List.getD_eq_getElem?_getD, List.getElem?_eq_getElem ir]; rfl
        have sd := (dD_ok SP.out x1 x2 i).1
        have ed : fi (p.getD i 0) = floatOfInt .f64 p[i] := ea
        rw [ed, show fi x = floatOfInt .f64 x from rfl] at sd
        obtain ⟨z, hz⟩ : ∃ z, p[i] = z := ⟨_, rfl⟩
        obtain ⟨y, hy⟩ : ∃ y, p[n - 1 - i] = y := ⟨_, rfl⟩
        obtain ⟨t, ht⟩ : ∃ t, dD p x i = t := ⟨_, rfl⟩
        rw [hz] at m0 ea sd
        rw [hy] at m1 eb
        rw [ht] at sd
        have s4 : ∀ t' w, (binOp .sub t' (.float .f64 (floatOfInt .f64 z)) (.float .f64 (floatOfInt .f64 x))).run Tryd.prog w = .ok (.float .f64 t) w := fun t' w => run_float_arith w .sub t' .f64 _ _ t sd
        have M0 := Lib.hid m0
        have M1 := Lib.hid m1
        have EA := Lib.hid ea
        have EB := Lib.hid eb
        have ED := Lib.hid ht
        have j0 : (0 : Int) ≤ (i : Int) := by omega
        have j1 : (i : Int) < (p.length : Int) := by omega
        have j2 : IntKind.i64.wrap ((n : Int) - 1) = ((n - 1 : Nat) : Int) := by rw [IntKind.wrap_i64]; omega
        have j3 : IntKind.i64.wrap (((n - 1 : Nat) : Int) - (i : Int)) = ((n - 1 - i : Nat) : Int) := by rw [IntKind.wrap_i64]; omega
        have j4 : ((n - 1 - i : Nat) : Int) < (p.length : Int) := by omega
        have j5 : (0 : Int) ≤ ((n - 1 - i : Nat) : Int) := by omega
        have j6 : IntKind.i64.wrap ((i : Int) + 1) = (i : Int) + 1 := by rw [IntKind.wrap_i64]; omega
        have HI : Hid (i + 1 ≤ n) := Lib.hid (by omega)
        have i19 : i ≤ 19 := by omega
        clear m0 m1 ea eb ed sd hz hy ht ip ir hlt
        go_wp2
        refine wp_region_G (g := 8) (S := fun w' => w'.cell? ⟨qa, 0, none⟩ = some va ∧ w'.cell? (ad.add i) = some (.int .i16 z)) (by kernel_rfl) ?_
        obtain ⟨wd, hwd⟩ : ∃ v, wr.drew = v := ⟨_, rfl⟩
        have HD : Hid (QW W wd [qa, qb, qc, qe] [va, nl, vb, nl, nl, nl, vd, nl] [(rgm (dA p) i), [], (rgm (dB p n) i), [], [], [], (rgm (dD p x) i), []]) := Lib.hid (by rw [← hwd]; exact hq.out.drew)
        have hS : wd.cell? ⟨qa, 0, none⟩ = some va ∧ wd.cell? (ad.add i) = some (.int .i16 z) := ⟨kb_cell (HD.out.q 0 (by simp)).1 (i := 0) rfl, cb HD.out.b M0.out⟩
        rw [hwd]
        clear hwd
        (refine wpG_take (i := 0) (v := ?_) rfl rfl (by kernel_rfl) (by kernel_rfl) (by kernel_rfl) (fun _ _ _ h => h) (Or.inl ⟨by rfl, fun w => ?_⟩) (Or.inr hS) ?_; rotate_left; focus (go_simp; first | done | with_reducible rfl | exact rfl)); (try simp only [Act.put, List.setIfInBounds_toArray, List.set_cons_zero, List.set_cons_succ, List.getElem_toArray, List.getElem_cons_zero, List.getElem_cons_succ])
        (refine wpG_ldC (i := 1) [8] (v := ?_) rfl rfl (by kernel_rfl) (by kernel_rfl) (by kernel_rfl) (by kernel_rfl) (fun _ _ _ h => h) (Or.inl ⟨by rfl, ?_⟩) hS ?_; rotate_left; focus (intro w hSw; (try dsimp only at hSw); go_simp; first | done | with_reducible rfl | exact rfl)); (try simp only [Act.put, List.setIfInBounds_toArray, List.set_cons_zero, List.set_cons_succ, List.getElem_toArray, List.getElem_cons_zero, List.getElem_cons_succ])
        (refine wpG_take (i := 2) (v := ?_) rfl rfl (by kernel_rfl) (by kernel_rfl) (by kernel_rfl) (fun _ _ _ h => h) (Or.inl ⟨by rfl, fun w => ?_⟩) (Or.inr hS) ?_; rotate_left; focus (go_simp; first | done | with_reducible rfl | exact rfl)); (try simp only [Act.put, List.setIfInBounds_toArray, List.set_cons_zero, List.set_cons_succ, List.getElem_toArray, List.getElem_cons_zero, List.getElem_cons_succ]); (refine wpG_take (i := 3) (v := ?_) rfl rfl (by kernel_rfl) (by kernel_rfl) (by kernel_rfl) (fun _ _ _ h => h) (Or.inl ⟨by rfl, fun w => ?_⟩) (Or.inr hS) ?_; rotate_left; focus (go_simp; first | done | with_reducible rfl | exact rfl)); (try simp only [Act.put, List.setIfInBounds_toArray, List.set_cons_zero, List.set_cons_succ, List.getElem_toArray, List.getElem_cons_zero, List.getElem_cons_succ]); (refine wpG_take (i := 4) (v := ?_) rfl rfl (by kernel_rfl) (by kernel_rfl) (by kernel_rfl) (fun _ _ _ h => h) (Or.inl ⟨by rfl, fun w => ?_⟩) (Or.inr hS) ?_; rotate_left; focus (go_simp; first | done | with_reducible rfl | exact rfl)); (try simp only [Act.put, List.setIfInBounds_toArray, List.set_cons_zero, List.set_cons_succ, List.getElem_toArray, List.getElem_cons_zero, List.getElem_cons_succ])
        (refine wpG_ldC (i := 5) [6, 7, 8] (v := ?_) rfl rfl (by kernel_rfl) (by kernel_rfl) (by kernel_rfl) (by kernel_rfl) (fun _ _ _ h => h) (Or.inl ⟨by rfl, ?_⟩) hS ?_; rotate_left; focus (intro w hSw; (try dsimp only at hSw); go_simp; first | done | with_reducible rfl | exact rfl)); (try simp only [Act.put, List.setIfInBounds_toArray, List.set_cons_zero, List.set_cons_succ, List.getElem_toArray, List.getElem_cons_zero, List.getElem_cons_succ])
        (refine wpG_take (i := 6) (v := ?_) rfl rfl (by kernel_rfl) (by kernel_rfl) (by kernel_rfl) (fun _ _ _ h => h) (Or.inl ⟨by rfl, fun w => ?_⟩) (Or.inr hS) ?_; rotate_left; focus (go_simp; first | done | with_reducible rfl | exact rfl)); (try simp only [Act.put, List.setIfInBounds_toArray, List.set_cons_zero, List.set_cons_succ, List.getElem_toArray, List.getElem_cons_zero, List.getElem_cons_succ])
        refine wpG_one (i := 7) (by kernel_rfl) rfl (fun K hK => ?_); have HK := Lib.hid hK; clear hK
        go_simp
        refine HK.out _ _ (Or.inr ⟨kb_cellA hS.1 _, kb_cellA hS.2 _⟩) ?_
        clear HK K
        (try simp only [Act.put, List.setIfInBounds_toArray, List.set_cons_zero, List.set_cons_succ, List.getElem_toArray, List.getElem_cons_zero, List.getElem_cons_succ])
        refine wpG_one (i := 8) (by kernel_rfl) rfl (fun K hK => ?_); have HK := Lib.hid hK; clear hK
        refine step_append_cells (w0 := W) W.heap.size rfl (.tmp 38) (.tmp 44) 22 25 (.float .f64 0) 1 8 rfl Tryd.underlying22 f_info rfl (by decide) (by decide) va (rgm (dA p) i).length ((rgm (dA p) i).map (Value.float .f64)) [.float .f64 (floatOfInt .f64 z)] rfl rfl rfl (fun u hu => by rw [List.mem_singleton.1 hu]; rfl) (HD.out.r 0 (by simp)) HD.out.b HD.out.b.size (by rw [rgm_len]; omega) ?_
        intro v1 w1 hown hb hg hat
        obtain ⟨e1, e2⟩ := HD.out.app (j := 0) (c := 0) (by simp) (by decide) hown hb hg hat
        obtain ⟨Aa, na, ev, _, _⟩ := ow_sl (e2.r 0 (by simp))
        have ev2 : v1 = .slice Aa ((rgm (dA p) i) ++ [(floatOfInt .f64 z)]).length na := ev
        rw [List.length_append, rgm_len, List.length_singleton] at ev2
        clear ev
        subst ev2
        have Ha : Hid (QW W (w1.setCell ⟨qa, 0, none⟩ (.slice Aa (i + 1) na)) [qa, qb, qc, qe] [(.slice Aa (i + 1) na), nl, vb, nl, nl, nl, vd, nl] [((rgm (dA p) i) ++ [(floatOfInt .f64 z)]), [], (rgm (dB p n) i), [], [], [], (rgm (dD p x) i), []]) := Lib.hid e2
        have g1 : w1.cell? ⟨qa, 0, none⟩ = some va := kb_cell (e1 0 (by simp)) (i := 0) rfl
        have g2 : w1.frozen? ⟨qa, 0, none⟩ = false := kb_frozen (e1 0 (by simp)) 0
        clear e1 e2 hown hb hg hat
        refine HK.out _ _ (Or.inl (by kernel_rfl)) ?_
        clear HK K hS HD
        (try simp only [Act.put, List.setIfInBounds_toArray, List.set_cons_zero, List.set_cons_succ, List.getElem_toArray, List.getElem_cons_zero, List.getElem_cons_succ])
        (refine wpG_take (i := 9) (v := ?_) rfl rfl (by kernel_rfl) (by kernel_rfl) (by kernel_rfl) (fun _ _ _ h => h) (Or.inl ⟨by rfl, fun w => ?_⟩) (Or.inl (by kernel_rfl)) ?_; rotate_left; focus (go_simp; first | done | with_reducible rfl | exact rfl)); (try simp only [Act.put, List.setIfInBounds_toArray, List.set_cons_zero, List.set_cons_succ, List.getElem_toArray, List.getElem_cons_zero, List.getElem_cons_succ])
        refine wpG_one (i := 10) (by kernel_rfl) rfl (fun K hK => ?_); have HK := Lib.hid hK; clear hK; go_simp; refine HK.out _ _ (Or.inl (by kernel_rfl)) ?_; clear HK K; (try simp only [Act.put, List.setIfInBounds_toArray, List.set_cons_zero, List.set_cons_succ, List.getElem_toArray, List.getElem_cons_zero, List.getElem_cons_succ])
        refine wpG_done (by kernel_rfl) ?_ _
        obtain ⟨wa, hwa⟩ : ∃ v, w1.setCell ⟨qa, 0, none⟩ (.slice Aa (i + 1) na) = v := ⟨_, rfl⟩
        rw [hwa] at Ha
        simp only [hwa]
        clear hwa g1 g2
        go_wp2
        refine wp_region_G (g := 11) (S := fun w' => w'.cell? ⟨qb, 0, none⟩ = some vb ∧ w'.cell? (ad.add (n - 1 - i)) = some (.int .i16 y)) (by kernel_rfl) ?_
        obtain ⟨wd, hwd⟩ : ∃ v, wa.drew = v := ⟨_, rfl⟩
        have HD : Hid (QW W wd [qa, qb, qc, qe] [(.slice Aa (i + 1) na), nl, vb, nl, nl, nl, vd, nl] [((rgm (dA p) i) ++ [(floatOfInt .f64 z)]), [], (rgm (dB p n) i), [], [], [], (rgm (dD p x) i), []]) := Lib.hid (by rw [← hwd]; exact Ha.out.drew)
        have hS : wd.cell? ⟨qb, 0, none⟩ = some vb ∧ wd.cell? (ad.add (n - 1 - i)) = some (.int .i16 y) := ⟨kb_cell (HD.out.q 1 (by simp)).1 (i := 0) rfl, cb HD.out.b M1.out⟩
        rw [hwd]
        clear hwd
        (refine wpG_take (i := 0) (v := ?_) rfl rfl (by kernel_rfl) (by kernel_rfl) (by kernel_rfl) (fun _ _ _ h => h) (Or.inl ⟨by rfl, fun w => ?_⟩) (Or.inr hS) ?_; rotate_left; focus (go_simp; first | done | with_reducible rfl | exact rfl)); (try simp only [Act.put, List.setIfInBounds_toArray, List.set_cons_zero, List.set_cons_succ, List.getElem_toArray, List.getElem_cons_zero, List.getElem_cons_succ])
        (refine wpG_ldC (i := 1) [11] (v := ?_) rfl rfl (by kernel_rfl) (by kernel_rfl) (by kernel_rfl) (by kernel_rfl) (fun _ _ _ h => h) (Or.inl ⟨by rfl, ?_⟩) hS ?_; rotate_left; focus (intro w hSw; (try dsimp only at hSw); go_simp; first | done | with_reducible rfl | exact rfl)); (try simp only [Act.put, List.setIfInBounds_toArray, List.set_cons_zero, List.set_cons_succ, List.getElem_toArray, List.getElem_cons_zero, List.getElem_cons_succ])
        (refine wpG_take (i := 2) (v := ?_) rfl rfl (by kernel_rfl) (by kernel_rfl) (by kernel_rfl) (fun _ _ _ h => h) (Or.inl ⟨by rfl, fun w => ?_⟩) (Or.inr hS) ?_; rotate_left; focus (go_simp; first | done | with_reducible rfl | exact rfl)); (try simp only [Act.put, List.setIfInBounds_toArray, List.set_cons_zero, List.set_cons_succ, List.getElem_toArray, List.getElem_cons_zero, List.getElem_cons_succ]); (refine wpG_take (i := 3) (v := ?_) rfl rfl (by kernel_rfl) (by kernel_rfl) (by kernel_rfl) (fun _ _ _ h => h) (Or.inl ⟨by rfl, fun w => ?_⟩) (Or.inr hS) ?_; rotate_left; focus (go_simp; first | done | with_reducible rfl | exact rfl)); (try simp only [Act.put, List.setIfInBounds_toArray, List.set_cons_zero, List.set_cons_succ, List.getElem_toArray, List.getElem_cons_zero, List.getElem_cons_succ]); (refine wpG_take (i := 4) (v := ?_) rfl rfl (by kernel_rfl) (by kernel_rfl) (by kernel_rfl) (fun _ _ _ h => h) (Or.inl ⟨by rfl, fun w => ?_⟩) (Or.inr hS) ?_; rotate_left; focus (go_simp; first | done | with_reducible rfl | exact rfl)); (try simp only [Act.put, List.setIfInBounds_toArray, List.set_cons_zero, List.set_cons_succ, List.getElem_toArray, List.getElem_cons_zero, List.getElem_cons_succ]); (refine wpG_take (i := 5) (v := ?_) rfl rfl (by kernel_rfl) (by kernel_rfl) (by kernel_rfl) (fun _ _ _ h => h) (Or.inl ⟨by rfl, fun w => ?_⟩) (Or.inr hS) ?_; rotate_left; focus (go_simp; first | done | with_reducible rfl | exact rfl)); (try simp only [Act.put, List.setIfInBounds_toArray, List.set_cons_zero, List.set_cons_succ, List.getElem_toArray, List.getElem_cons_zero, List.getElem_cons_succ]); (refine wpG_take (i := 6) (v := ?_) rfl rfl (by kernel_rfl) (by kernel_rfl) (by kernel_rfl) (fun _ _ _ h => h) (Or.inl ⟨by rfl, fun w => ?_⟩) (Or.inr hS) ?_; rotate_left; focus (go_simp; first | done | with_reducible rfl | exact rfl)); (try simp only [Act.put, List.setIfInBounds_toArray, List.set_cons_zero, List.set_cons_succ, List.getElem_toArray, List.getElem_cons_zero, List.getElem_cons_succ]); (refine wpG_take (i := 7) (v := ?_) rfl rfl (by kernel_rfl) (by kernel_rfl) (by kernel_rfl) (fun _ _ _ h => h) (Or.inl ⟨by rfl, fun w => ?_⟩) (Or.inr hS) ?_; rotate_left; focus (go_simp; first | done | with_reducible rfl | exact rfl)); (try simp only [Act.put, List.setIfInBounds_toArray, List.set_cons_zero, List.set_cons_succ, List.getElem_toArray, List.getElem_cons_zero, List.getElem_cons_succ])
        (refine wpG_ldC (i := 8) [9, 10, 11] (v := ?_) rfl rfl (by kernel_rfl) (by kernel_rfl) (by kernel_rfl) (by kernel_rfl) (fun _ _ _ h => h) (Or.inl ⟨by rfl, ?_⟩) hS ?_; rotate_left; focus (intro w hSw; (try dsimp only at hSw); go_simp; first | done | with_reducible rfl | exact rfl)); (try simp only [Act.put, List.setIfInBounds_toArray, List.set_cons_zero, List.set_cons_succ, List.getElem_toArray, List.getElem_cons_zero, List.getElem_cons_succ])
        (refine wpG_take (i := 9) (v := ?_) rfl rfl (by kernel_rfl) (by kernel_rfl) (by kernel_rfl) (fun _ _ _ h => h) (Or.inl ⟨by rfl, fun w => ?_⟩) (Or.inr hS) ?_; rotate_left; focus (go_simp; first | done | with_reducible rfl | exact rfl)); (try simp only [Act.put, List.setIfInBounds_toArray, List.set_cons_zero, List.set_cons_succ, List.getElem_toArray, List.getElem_cons_zero, List.getElem_cons_succ])
        refine wpG_one (i := 10) (by kernel_rfl) rfl (fun K hK => ?_); have HK := Lib.hid hK; clear hK
        go_simp
        refine HK.out _ _ (Or.inr ⟨kb_cellA hS.1 _, kb_cellA hS.2 _⟩) ?_
        clear HK K
        (try simp only [Act.put, List.setIfInBounds_toArray, List.set_cons_zero, List.set_cons_succ, List.getElem_toArray, List.getElem_cons_zero, List.getElem_cons_succ])
        refine wpG_one (i := 11) (by kernel_rfl) rfl (fun K hK => ?_); have HK := Lib.hid hK; clear hK
        refine step_append_cells (w0 := W) W.heap.size rfl (.tmp 48) (.tmp 57) 22 25 (.float .f64 0) 1 8 rfl Tryd.underlying22 f_info rfl (by decide) (by decide) vb (rgm (dB p n) i).length ((rgm (dB p n) i).map (Value.float .f64)) [.float .f64 (floatOfInt .f64 y)] rfl rfl rfl (fun u hu => by rw [List.mem_singleton.1 hu]; rfl) (HD.out.r 2 (by simp)) HD.out.b HD.out.b.size (by rw [rgm_len]; omega) ?_
        intro v1 w1 hown hb hg hat
        obtain ⟨e1, e2⟩ := HD.out.app (j := 1) (c := 0) (by simp) (by decide) hown hb hg hat
        obtain ⟨Ab, nb, ev, _, _⟩ := ow_sl (e2.r 2 (by simp))
        have ev2 : v1 = .slice Ab ((rgm (dB p n) i) ++ [(floatOfInt .f64 y)]).length nb := ev
        rw [List.length_append, rgm_len, List.length_singleton] at ev2
        clear ev
        subst ev2
        have Hb : Hid (QW W (w1.setCell ⟨qb, 0, none⟩ (.slice Ab (i + 1) nb)) [qa, qb, qc, qe] [(.slice Aa (i + 1) na), nl, (.slice Ab (i + 1) nb), nl, nl, nl, vd, nl] [((rgm (dA p) i) ++ [(floatOfInt .f64 z)]), [], ((rgm (dB p n) i) ++ [(floatOfInt .f64 y)]), [], [], [], (rgm (dD p x) i), []]) := Lib.hid e2
        have g1 : w1.cell? ⟨qb, 0, none⟩ = some vb := kb_cell (e1 1 (by simp)) (i := 0) rfl
        have g2 : w1.frozen? ⟨qb, 0, none⟩ = false := kb_frozen (e1 1 (by simp)) 0
        clear e1 e2 hown hb hg hat
        refine HK.out _ _ (Or.inl (by kernel_rfl)) ?_
        clear HK K hS HD
        (try simp only [Act.put, List.setIfInBounds_toArray, List.set_cons_zero, List.set_cons_succ, List.getElem_toArray, List.getElem_cons_zero, List.getElem_cons_succ])
        (refine wpG_take (i := 12) (v := ?_) rfl rfl (by kernel_rfl) (by kernel_rfl) (by kernel_rfl) (fun _ _ _ h => h) (Or.inl ⟨by rfl, fun w => ?_⟩) (Or.inl (by kernel_rfl)) ?_; rotate_left; focus (go_simp; first | done | with_reducible rfl | exact rfl)); (try simp only [Act.put, List.setIfInBounds_toArray, List.set_cons_zero, List.set_cons_succ, List.getElem_toArray, List.getElem_cons_zero, List.getElem_cons_succ])
        refine wpG_one (i := 13) (by kernel_rfl) rfl (fun K hK => ?_); have HK := Lib.hid hK; clear hK; go_simp; refine HK.out _ _ (Or.inl (by kernel_rfl)) ?_; clear HK K; (try simp only [Act.put, List.setIfInBounds_toArray, List.set_cons_zero, List.set_cons_succ, List.getElem_toArray, List.getElem_cons_zero, List.getElem_cons_succ])
        refine wpG_done (by kernel_rfl) ?_ _
        obtain ⟨wb, hwb⟩ : ∃ v, w1.setCell ⟨qb, 0, none⟩ (.slice Ab (i + 1) nb) = v := ⟨_, rfl⟩
        rw [hwb] at Hb
        simp only [hwb]
        clear hwb g1 g2
        go_wp2
        refine wp_region_G (g := 11) (S := fun w' => w'.cell? ⟨qe, 0, none⟩ = some vd ∧ w'.cell? (ad.add i) = some (.int .i16 z)) (by kernel_rfl) ?_
        obtain ⟨wd, hwd⟩ : ∃ v, wb.drew = v := ⟨_, rfl⟩
        have HD : Hid (QW W wd [qa, qb, qc, qe] [(.slice Aa (i + 1) na), nl, (.slice Ab (i + 1) nb), nl, nl, nl, vd, nl] [((rgm (dA p) i) ++ [(floatOfInt .f64 z)]), [], ((rgm (dB p n) i) ++ [(floatOfInt .f64 y)]), [], [], [], (rgm (dD p x) i), []]) := Lib.hid (by rw [← hwd]; exact Hb.out.drew)
        have hS : wd.cell? ⟨qe, 0, none⟩ = some vd ∧ wd.cell? (ad.add i) = some (.int .i16 z) := ⟨kb_cell (HD.out.q 3 (by simp)).1 (i := 0) rfl, cb HD.out.b M0.out⟩
        rw [hwd]
        clear hwd
        (refine wpG_take (i := 0) (v := ?_) rfl rfl (by kernel_rfl) (by kernel_rfl) (by kernel_rfl) (fun _ _ _ h => h) (Or.inl ⟨by rfl, fun w => ?_⟩) (Or.inr hS) ?_; rotate_left; focus (go_simp; first | done | with_reducible rfl | exact rfl)); (try simp only [Act.put, List.setIfInBounds_toArray, List.set_cons_zero, List.set_cons_succ, List.getElem_toArray, List.getElem_cons_zero, List.getElem_cons_succ])
        (refine wpG_ldC (i := 1) [11] (v := ?_) rfl rfl (by kernel_rfl) (by kernel_rfl) (by kernel_rfl) (by kernel_rfl) (fun _ _ _ h => h) (Or.inl ⟨by rfl, ?_⟩) hS ?_; rotate_left; focus (intro w hSw; (try dsimp only at hSw); go_simp; first | done | with_reducible rfl | exact rfl)); (try simp only [Act.put, List.setIfInBounds_toArray, List.set_cons_zero, List.set_cons_succ, List.getElem_toArray, List.getElem_cons_zero, List.getElem_cons_succ])
        (refine wpG_take (i := 2) (v := ?_) rfl rfl (by kernel_rfl) (by kernel_rfl) (by kernel_rfl) (fun _ _ _ h => h) (Or.inl ⟨by rfl, fun w => ?_⟩) (Or.inr hS) ?_; rotate_left; focus (go_simp; first | done | with_reducible rfl | exact rfl)); (try simp only [Act.put, List.setIfInBounds_toArray, List.set_cons_zero, List.set_cons_succ, List.getElem_toArray, List.getElem_cons_zero, List.getElem_cons_succ]); (refine wpG_take (i := 3) (v := ?_) rfl rfl (by kernel_rfl) (by kernel_rfl) (by kernel_rfl) (fun _ _ _ h => h) (Or.inl ⟨by rfl, fun w => ?_⟩) (Or.inr hS) ?_; rotate_left; focus (go_simp; first | done | with_reducible rfl | exact rfl)); (try simp only [Act.put, List.setIfInBounds_toArray, List.set_cons_zero, List.set_cons_succ, List.getElem_toArray, List.getElem_cons_zero, List.getElem_cons_succ]); (refine wpG_take (i := 4) (v := ?_) rfl rfl (by kernel_rfl) (by kernel_rfl) (by kernel_rfl) (fun _ _ _ h => h) (Or.inl ⟨by rfl, fun w => ?_⟩) (Or.inr hS) ?_; rotate_left; focus (go_simp; first | done | with_reducible rfl | exact rfl)); (try simp only [Act.put, List.setIfInBounds_toArray, List.set_cons_zero, List.set_cons_succ, List.getElem_toArray, List.getElem_cons_zero, List.getElem_cons_succ])
        (refine wpG_ldC (i := 5) [6, 9, 10, 11] (v := ?_) rfl rfl (by kernel_rfl) (by kernel_rfl) (by kernel_rfl) (by kernel_rfl) (fun _ _ _ h => h) (Or.inl ⟨by rfl, ?_⟩) hS ?_; rotate_left; focus (intro w hSw; (try dsimp only at hSw); go_simp; first | done | with_reducible rfl | exact rfl)); (try simp only [Act.put, List.setIfInBounds_toArray, List.set_cons_zero, List.set_cons_succ, List.getElem_toArray, List.getElem_cons_zero, List.getElem_cons_succ])
        (refine wpG_take (i := 6) (v := ?_) rfl rfl (by kernel_rfl) (by kernel_rfl) (by kernel_rfl) (fun _ _ _ h => h) (Or.inl ⟨by rfl, fun w => ?_⟩) (Or.inr hS) ?_; rotate_left; focus (go_simp; first | done | with_reducible rfl | exact rfl)); (try simp only [Act.put, List.setIfInBounds_toArray, List.set_cons_zero, List.set_cons_succ, List.getElem_toArray, List.getElem_cons_zero, List.getElem_cons_succ]); (refine wpG_take (i := 7) (v := ?_) rfl rfl (by kernel_rfl) (by kernel_rfl) (by kernel_rfl) (fun _ _ _ h => h) (Or.inl ⟨by rfl, fun w => ?_⟩) (Or.inr hS) ?_; rotate_left; focus (go_simp; first | done | with_reducible rfl | exact rfl)); (try simp only [Act.put, List.setIfInBounds_toArray, List.set_cons_zero, List.set_cons_succ, List.getElem_toArray, List.getElem_cons_zero, List.getElem_cons_succ]); (refine wpG_take (i := 8) (v := ?_) rfl rfl (by kernel_rfl) (by kernel_rfl) (by kernel_rfl) (fun _ _ _ h => h) (Or.inl ⟨by rfl, fun w => ?_⟩) (Or.inr hS) ?_; rotate_left; focus (go_simp; first | done | with_reducible rfl | exact rfl)); (try simp only [Act.put, List.setIfInBounds_toArray, List.set_cons_zero, List.set_cons_succ, List.getElem_toArray, List.getElem_cons_zero, List.getElem_cons_succ]); (refine wpG_take (i := 9) (v := ?_) rfl rfl (by kernel_rfl) (by kernel_rfl) (by kernel_rfl) (fun _ _ _ h => h) (Or.inl ⟨by rfl, fun w => ?_⟩) (Or.inr hS) ?_; rotate_left; focus (go_simp; first | done | with_reducible rfl | exact rfl)); (try simp only [Act.put, List.setIfInBounds_toArray, List.set_cons_zero, List.set_cons_succ, List.getElem_toArray, List.getElem_cons_zero, List.getElem_cons_succ])
        refine wpG_one (i := 10) (by kernel_rfl) rfl (fun K hK => ?_); have HK := Lib.hid hK; clear hK
        go_simp
        refine HK.out _ _ (Or.inr ⟨kb_cellA hS.1 _, kb_cellA hS.2 _⟩) ?_
        clear HK K
        (try simp only [Act.put, List.setIfInBounds_toArray, List.set_cons_zero, List.set_cons_succ, List.getElem_toArray, List.getElem_cons_zero, List.getElem_cons_succ])
        refine wpG_one (i := 11) (by kernel_rfl) rfl (fun K hK => ?_); have HK := Lib.hid hK; clear hK
        refine step_append_cells (w0 := W) W.heap.size rfl (.tmp 61) (.tmp 70) 22 25 (.float .f64 0) 1 8 rfl Tryd.underlying22 f_info rfl (by decide) (by decide) vd (rgm (dD p x) i).length ((rgm (dD p x) i).map (Value.float .f64)) [.float .f64 t] rfl rfl rfl (fun u hu => by rw [List.mem_singleton.1 hu]; rfl) (HD.out.r 6 (by simp)) HD.out.b HD.out.b.size (by rw [rgm_len]; omega) ?_
        intro v1 w1 hown hb hg hat
        obtain ⟨e1, e2⟩ := HD.out.app (j := 3) (c := 0) (by simp) (by decide) hown hb hg hat
        obtain ⟨Ac, nc, ev, _, _⟩ := ow_sl (e2.r 6 (by simp))
        have ev2 : v1 = .slice Ac ((rgm (dD p x) i) ++ [t]).length nc := ev
        rw [List.length_append, rgm_len, List.length_singleton] at ev2
        clear ev
        subst ev2
        have Hc : Hid (QW W (w1.setCell ⟨qe, 0, none⟩ (.slice Ac (i + 1) nc)) [qa, qb, qc, qe] [(.slice Aa (i + 1) na), nl, (.slice Ab (i + 1) nb), nl, nl, nl, (.slice Ac (i + 1) nc), nl] [((rgm (dA p) i) ++ [(floatOfInt .f64 z)]), [], ((rgm (dB p n) i) ++ [(floatOfInt .f64 y)]), [], [], [], ((rgm (dD p x) i) ++ [t]), []]) := Lib.hid e2
        have g1 : w1.cell? ⟨qe, 0, none⟩ = some vd := kb_cell (e1 3 (by simp)) (i := 0) rfl
        have g2 : w1.frozen? ⟨qe, 0, none⟩ = false := kb_frozen (e1 3 (by simp)) 0
        clear e1 e2 hown hb hg hat
        refine HK.out _ _ (Or.inl (by kernel_rfl)) ?_
        clear HK K hS HD
        (try simp only [Act.put, List.setIfInBounds_toArray, List.set_cons_zero, List.set_cons_succ, List.getElem_toArray, List.getElem_cons_zero, List.getElem_cons_succ])
        (refine wpG_take (i := 12) (v := ?_) rfl rfl (by kernel_rfl) (by kernel_rfl) (by kernel_rfl) (fun _ _ _ h => h) (Or.inl ⟨by rfl, fun w => ?_⟩) (Or.inl (by kernel_rfl)) ?_; rotate_left; focus (go_simp; first | done | with_reducible rfl | exact rfl)); (try simp only [Act.put, List.setIfInBounds_toArray, List.set_cons_zero, List.set_cons_succ, List.getElem_toArray, List.getElem_cons_zero, List.getElem_cons_succ])
        refine wpG_one (i := 13) (by kernel_rfl) rfl (fun K hK => ?_); have HK := Lib.hid hK; clear hK; go_simp; refine HK.out _ _ (Or.inl (by kernel_rfl)) ?_; clear HK K; (try simp only [Act.put, List.setIfInBounds_toArray, List.set_cons_zero, List.set_cons_succ, List.getElem_toArray, List.getElem_cons_zero, List.getElem_cons_succ])
        refine wpG_done (by kernel_rfl) ?_ _
        obtain ⟨wc, hwc⟩ : ∃ v, w1.setCell ⟨qe, 0, none⟩ (.slice Ac (i + 1) nc) = v := ⟨_, rfl⟩
        rw [hwc] at Hc
        simp only [hwc]
        clear hwc g1 g2
        go_wp2
        go_roundw
        case rel => exact ⟨i + 1, _, _, _, by go_num, HI.out, Lib.hid (by rw [rgm_succ, rgm_succ, rgm_succ, EA.out, EB.out, ED.out]; exact Hc.out)⟩
        case measure => have := HI.out; simp [intOf]; omega
      · have l1 : decide (i < n) = false := decide_eq_false hlt
        have hin : i = n := by omega
        subst hin
        clear hlt l1 hi
        have e1 : IntKind.i64.wrap ((i : Int) - 1) = ((i - 1 : Nat) : Int) := by rw [IntKind.wrap_i64]; omega
        have HQ0 := Lib.hid hq.out
        go_wp2
        go_loopw [13] (fun v13 wr => ∃ (k : Nat) (ua ud : Value), v13 = .int .i64 k ∧ k ≤ i - 1 ∧ Hid (QW W wr [qa, qb, qc, qe] [va, ua, vb, nl, nl, nl, vd, ud] [(rgm (dA p) i), (rgm (oAt q) k), (rgm (dB p i) i), [], [], [], (rgm (dD p x) i), (rgm (oAt q) k)])) (fun v _ => i - (intOf v).toNat)
        case atStart => exact ⟨0, nl, nl, rfl, Nat.zero_le _, Lib.hid HQ0.out⟩
        case round =>
          obtain ⟨k, ua, ud, rfl, hk, hq⟩ := hrel
          clear HQ0
          by_cases hlt : k < i - 1
          · have l1 : decide (k < i - 1) = true := decide_eq_true hlt
            have c0 : wr.cell? ⟨qa, 1, none⟩ = some ua := kb_cell (hq.out.q 0 (by simp)).1 (i := 1) rfl
            have f0 : wr.frozen? ⟨qa, 1, none⟩ = false := kb_frozen (hq.out.q 0 (by simp)).1 1
            have j6 : IntKind.i64.wrap ((k : Int) + 1) = (k : Int) + 1 := by rw [IntKind.wrap_i64]; omega
            have HI : Hid (k + 1 ≤ i - 1) := Lib.hid (by omega)
            have i19 : k ≤ 19 := by omega
            clear hlt
            by_cases hin : k < q.length
            · have l2 : decide (k < q.length) = true := decide_eq_true hin
              obtain ⟨qd, hB2, d0⟩ := (HQ.out.below hq.out.b).at hin
              subst hB2
              have j2 : (k : Int) < (q.length : Int) := by omega
              have j3 : (0 : Int) ≤ (k : Int) := by omega
              have eo : oAt q k = floatOfInt .f64 q[k] := by unfold oAt fi; rw [if_pos hin, List.getD_eq_getElem?_getD, List.getElem?_eq_getElem hin]; rfl
              obtain ⟨z, hz⟩ : ∃ z, q[k] = z := ⟨_, rfl⟩
              rw [hz] at d0 eo
              have EO := Lib.hid eo
              clear eo hz hin
              go_upto_region 20 with (first
                | (at_builtin; (refine print_append_cells (w0 := W) W.heap.size rfl (.tmp 89) (.tmp 91) 22 25 (.float .f64 0) 1 8 rfl Tryd.underlying22 f_info rfl (by decide) (by decide) ua (rgm (oAt q) k).length ((rgm (oAt q) k).map (Value.float .f64)) [.float .f64 (floatOfInt .f64 z)] rfl rfl rfl (fun u hu => by rw [List.mem_singleton.1 hu]; rfl) (hq.out.r 1 (by simp)) hq.out.b hq.out.b.size (by rw [rgm_len]; omega) ?_); intro v1 w1 hown hb hg hat; obtain ⟨e1, e2⟩ := hq.out.app (j := 0) (c := 1) (by simp) (by decide) hown hb hg hat; obtain ⟨Aa, na, ev, _, _⟩ := ow_sl (e2.r 1 (by simp)); have ev2 : v1 = .slice Aa ((rgm (oAt q) k) ++ [(floatOfInt .f64 z)]).length na := ev; rw [List.length_append, rgm_len, List.length_singleton] at ev2; clear ev; subst ev2; have Ha : Hid (QW W (w1.setCell ⟨qa, 1, none⟩ (.slice Aa (k + 1) na)) [qa, qb, qc, qe] [va, (.slice Aa (k + 1) na), vb, nl, nl, nl, vd, ud] [(rgm (dA p) i), ((rgm (oAt q) k) ++ [(floatOfInt .f64 z)]), (rgm (dB p i) i), [], [], [], (rgm (dD p x) i), (rgm (oAt q) k)]) := Lib.hid e2; have g1 : w1.cell? ⟨qa, 1, none⟩ = some ua := kb_cell (e1 0 (by simp)) (i := 1) rfl; have g2 : w1.frozen? ⟨qa, 1, none⟩ = false := kb_frozen (e1 0 (by simp)) 1; clear e1 e2 hown hb hg hat))
              obtain ⟨wa, hwa⟩ : ∃ v, w1.setCell ⟨qa, 1, none⟩ (.slice Aa (k + 1) na) = v := ⟨_, rfl⟩
              rw [hwa] at Ha
              simp only [hwa]
              clear hwa g1 g2
              have c1 : wa.cell? ⟨qe, 1, none⟩ = some ud := kb_cell (Ha.out.q 3 (by simp)).1 (i := 1) rfl
              go_wp2_with (first
                | (at_builtin; (refine print_append_cells (w0 := W) W.heap.size rfl (.tmp 95) (.tmp 97) 22 25 (.float .f64 0) 1 8 rfl Tryd.underlying22 f_info rfl (by decide) (by decide) ud (rgm (oAt q) k).length ((rgm (oAt q) k).map (Value.float .f64)) [.float .f64 (floatOfInt .f64 z)] rfl rfl rfl (fun u hu => by rw [List.mem_singleton.1 hu]; rfl) (Ha.out.r 7 (by simp)) Ha.out.b Ha.out.b.size (by rw [rgm_len]; omega) ?_); intro v1 w1 hown hb hg hat; obtain ⟨e1, e2⟩ := Ha.out.app (j := 3) (c := 1) (by simp) (by decide) hown hb hg hat; obtain ⟨Ab, nb, ev, _, _⟩ := ow_sl (e2.r 7 (by simp)); have ev2 : v1 = .slice Ab ((rgm (oAt q) k) ++ [(floatOfInt .f64 z)]).length nb := ev; rw [List.length_append, rgm_len, List.length_singleton] at ev2; clear ev; subst ev2; have Hb : Hid (QW W (w1.setCell ⟨qe, 1, none⟩ (.slice Ab (k + 1) nb)) [qa, qb, qc, qe] [va, (.slice Aa (k + 1) na), vb, nl, nl, nl, vd, (.slice Ab (k + 1) nb)] [(rgm (dA p) i), ((rgm (oAt q) k) ++ [(floatOfInt .f64 z)]), (rgm (dB p i) i), [], [], [], (rgm (dD p x) i), ((rgm (oAt q) k) ++ [(floatOfInt .f64 z)])]) := Lib.hid e2; have g1 : w1.cell? ⟨qe, 1, none⟩ = some ud := kb_cell (e1 3 (by simp)) (i := 1) rfl; have g2 : w1.frozen? ⟨qe, 1, none⟩ = false := kb_frozen (e1 3 (by simp)) 1; clear e1 e2 hown hb hg hat))
              go_roundw
              case rel => exact ⟨k + 1, _, _, by go_num, HI.out, Lib.hid (by rw [rgm_succ, EO.out]; exact Hb.out)⟩
              case measure => have := HI.out; simp [intOf]; omega
            · have l2 : decide (k < q.length) = false := decide_eq_false hin
              have eo : oAt q k = 4607182418800017408 := by unfold oAt; rw [if_neg hin]
              have EO := Lib.hid eo
              clear eo hin
              go_upto_region 20 with (first
                | (at_builtin; (refine print_append_cells (w0 := W) W.heap.size rfl (.tmp 89) (.tmp 91) 22 25 (.float .f64 0) 1 8 rfl Tryd.underlying22 f_info rfl (by decide) (by decide) ua (rgm (oAt q) k).length ((rgm (oAt q) k).map (Value.float .f64)) [.float .f64 4607182418800017408] rfl rfl rfl (fun u hu => by rw [List.mem_singleton.1 hu]; rfl) (hq.out.r 1 (by simp)) hq.out.b hq.out.b.size (by rw [rgm_len]; omega) ?_); intro v1 w1 hown hb hg hat; obtain ⟨e1, e2⟩ := hq.out.app (j := 0) (c := 1) (by simp) (by decide) hown hb hg hat; obtain ⟨Aa, na, ev, _, _⟩ := ow_sl (e2.r 1 (by simp)); have ev2 : v1 = .slice Aa ((rgm (oAt q) k) ++ [4607182418800017408]).length na := ev; rw [List.length_append, rgm_len, List.length_singleton] at ev2; clear ev; subst ev2; have Ha : Hid (QW W (w1.setCell ⟨qa, 1, none⟩ (.slice Aa (k + 1) na)) [qa, qb, qc, qe] [va, (.slice Aa (k + 1) na), vb, nl, nl, nl, vd, ud] [(rgm (dA p) i), ((rgm (oAt q) k) ++ [4607182418800017408]), (rgm (dB p i) i), [], [], [], (rgm (dD p x) i), (rgm (oAt q) k)]) := Lib.hid e2; have g1 : w1.cell? ⟨qa, 1, none⟩ = some ua := kb_cell (e1 0 (by simp)) (i := 1) rfl; have g2 : w1.frozen? ⟨qa, 1, none⟩ = false := kb_frozen (e1 0 (by simp)) 1; clear e1 e2 hown hb hg hat))
              obtain ⟨wa, hwa⟩ : ∃ v, w1.setCell ⟨qa, 1, none⟩ (.slice Aa (k + 1) na) = v := ⟨_, rfl⟩
              rw [hwa] at Ha
              simp only [hwa]
              clear hwa g1 g2
              have c1 : wa.cell? ⟨qe, 1, none⟩ = some ud := kb_cell (Ha.out.q 3 (by simp)).1 (i := 1) rfl
              go_wp2_with (first
                | (at_builtin; (refine print_append_cells (w0 := W) W.heap.size rfl (.tmp 95) (.tmp 97) 22 25 (.float .f64 0) 1 8 rfl Tryd.underlying22 f_info rfl (by decide) (by decide) ud (rgm (oAt q) k).length ((rgm (oAt q) k).map (Value.float .f64)) [.float .f64 4607182418800017408] rfl rfl rfl (fun u hu => by rw [List.mem_singleton.1 hu]; rfl) (Ha.out.r 7 (by simp)) Ha.out.b Ha.out.b.size (by rw [rgm_len]; omega) ?_); intro v1 w1 hown hb hg hat; obtain ⟨e1, e2⟩ := Ha.out.app (j := 3) (c := 1) (by simp) (by decide) hown hb hg hat; obtain ⟨Ab, nb, ev, _, _⟩ := ow_sl (e2.r 7 (by simp)); have ev2 : v1 = .slice Ab ((rgm (oAt q) k) ++ [4607182418800017408]).length nb := ev; rw [List.length_append, rgm_len, List.length_singleton] at ev2; clear ev; subst ev2; have Hb : Hid (QW W (w1.setCell ⟨qe, 1, none⟩ (.slice Ab (k + 1) nb)) [qa, qb, qc, qe] [va, (.slice Aa (k + 1) na), vb, nl, nl, nl, vd, (.slice Ab (k + 1) nb)] [(rgm (dA p) i), ((rgm (oAt q) k) ++ [4607182418800017408]), (rgm (dB p i) i), [], [], [], (rgm (dD p x) i), ((rgm (oAt q) k) ++ [4607182418800017408])]) := Lib.hid e2; have g1 : w1.cell? ⟨qe, 1, none⟩ = some ud := kb_cell (e1 3 (by simp)) (i := 1) rfl; have g2 : w1.frozen? ⟨qe, 1, none⟩ = false := kb_frozen (e1 3 (by simp)) 1; clear e1 e2 hown hb hg hat))
              go_roundw
              case rel => exact ⟨k + 1, _, _, by go_num, HI.out, Lib.hid (by rw [rgm_succ, EO.out]; exact Hb.out)⟩
              case measure => have := HI.out; simp [intOf]; omega
          · have l1 : decide (k < i - 1) = false := decide_eq_false hlt
            have hin : k = i - 1 := by omega
            subst hin
            clear hlt l1 hk
            have HQ0 := Lib.hid hq.out
            go_wp2
            go_loopw [15] (fun v15 wr => ∃ (k : Nat) (ub uc : Value), v15 = .int .i64 k ∧ k ≤ i - 1 ∧ Hid (QW W wr [qa, qb, qc, qe] [va, ua, vb, ub, nl, uc, vd, ud] [(rgm (dA p) i), (rgm (oAt q) (i - 1)), (rgm (dB p i) i), (rgm (oB q i) k), [], (rgm (oTn q) k), (rgm (dD p x) i), (rgm (oAt q) (i - 1))])) (fun v _ => i - (intOf v).toNat)
            case atStart => exact ⟨0, nl, nl, rfl, Nat.zero_le _, Lib.hid HQ0.out⟩
            case round =>
              obtain ⟨k, ub, uc, rfl, hk, hq⟩ := hrel
              clear HQ0
              by_cases hlt : k < i - 1
              · have l1 : decide (k < i - 1) = true := decide_eq_true hlt
                obtain ⟨AU, cU, eU, _, fU⟩ := ow_sl (hq.out.r 1 (by simp))
                have eU2 : ua = .slice AU (rgm (oAt q) (i - 1)).length cU := eU
                rw [rgm_len] at eU2
                clear eU
                subst eU2
                have fU2 : Fl wr AU (rgm (oAt q) (i - 1)) := fU
                have ix1 : i - 2 - k < (rgm (oAt q) (i - 1)).length := by rw [rgm_len]; omega
                have ix2 : k < (rgm (oAt q) (i - 1)).length := by rw [rgm_len]; omega
                obtain ⟨ad, hA2, m0⟩ := fU2.at ix1
                obtain ⟨ad', hA3, m1⟩ := fU2.at ix2
                subst hA2
                injection hA3 with hA3
                subst hA3
                rw [rgm_get] at m0 m1
                have OB : Hid (oB q i k = oAt q (i - 2 - k)) := Lib.hid rfl
                obtain ⟨z, hz⟩ : ∃ z, oAt q (i - 2 - k) = z := ⟨_, rfl⟩
                obtain ⟨y, hy⟩ : ∃ y, oAt q k = y := ⟨_, rfl⟩
                rw [hz] at m0 OB
                rw [hy] at m1
                have OT : Hid (oTn q k = if k % 2 = 0 then fneg y else y) := Lib.hid (by unfold oTn; rw [hy])
                have M1 := Lib.hid m1
                have M0 := Lib.hid m0
                have j2 : IntKind.i64.wrap ((i : Int) - 2) = ((i - 2 : Nat) : Int) := by rw [IntKind.wrap_i64]; omega
                have j3 : IntKind.i64.wrap (((i - 2 : Nat) : Int) - (k : Int)) = ((i - 2 - k : Nat) : Int) := by rw [IntKind.wrap_i64]; omega
                have j4 : ((i - 2 - k : Nat) : Int) < ((i - 1 : Nat) : Int) := by omega
                have j5 : (0 : Int) ≤ ((i - 2 - k : Nat) : Int) := by omega
                have j0 : (0 : Int) ≤ (k : Int) := by omega
                have j1 : (k : Int) < ((i - 1 : Nat) : Int) := by omega
                have j6 : IntKind.i64.wrap ((k : Int) + 1) = (k : Int) + 1 := by rw [IntKind.wrap_i64]; omega
                have HI : Hid (k + 1 ≤ i - 1) := Lib.hid (by omega)
                have i19 : k ≤ 19 := by omega
                have HY := Lib.hid hy
                clear m0 m1 fU fU2 ix1 ix2 hz hy hlt e1
                go_wp2
                refine wp_region_G (g := 11) (S := fun w' => w'.cell? ⟨qb, 1, none⟩ = some ub ∧ w'.cell? ⟨qa, 1, none⟩ = some (.slice (some ad) (i - 1) cU) ∧ w'.cell? (ad.add (i - 2 - k)) = some (.float .f64 z)) (by kernel_rfl) ?_
                obtain ⟨wd, hwd⟩ : ∃ v, wr.drew = v := ⟨_, rfl⟩
                have HD : Hid (QW W wd [qa, qb, qc, qe] [va, (.slice (some ad) (i - 1) cU), vb, ub, nl, uc, vd, ud] [(rgm (dA p) i), (rgm (oAt q) (i - 1)), (rgm (dB p i) i), (rgm (oB q i) k), [], (rgm (oTn q) k), (rgm (dD p x) i), (rgm (oAt q) (i - 1))]) := Lib.hid (by rw [← hwd]; exact hq.out.drew)
                have hS : wd.cell? ⟨qb, 1, none⟩ = some ub ∧ wd.cell? ⟨qa, 1, none⟩ = some (.slice (some ad) (i - 1) cU) ∧ wd.cell? (ad.add (i - 2 - k)) = some (.float .f64 z) := ⟨kb_cell (HD.out.q 1 (by simp)).1 (i := 1) rfl, kb_cell (HD.out.q 0 (by simp)).1 (i := 1) rfl, (by rw [← hwd]; exact M0.out)⟩
                rw [hwd]
                clear hwd
                (refine wpG_take (i := 0) (v := ?_) rfl rfl (by kernel_rfl) (by kernel_rfl) (by kernel_rfl) (fun _ _ _ h => h) (Or.inl ⟨by rfl, fun w => ?_⟩) (Or.inr hS) ?_; rotate_left; focus (go_simp; first | done | with_reducible rfl | exact rfl)); (try simp only [Act.put, List.setIfInBounds_toArray, List.set_cons_zero, List.set_cons_succ, List.getElem_toArray, List.getElem_cons_zero, List.getElem_cons_succ])
                (refine wpG_ldC (i := 1) [11] (v := ?_) rfl rfl (by kernel_rfl) (by kernel_rfl) (by kernel_rfl) (by kernel_rfl) (fun _ _ _ h => h) (Or.inl ⟨by rfl, ?_⟩) hS ?_; rotate_left; focus (intro w hSw; (try dsimp only at hSw); go_simp; first | done | with_reducible rfl | exact rfl)); (try simp only [Act.put, List.setIfInBounds_toArray, List.set_cons_zero, List.set_cons_succ, List.getElem_toArray, List.getElem_cons_zero, List.getElem_cons_succ])
                (refine wpG_take (i := 2) (v := ?_) rfl rfl (by kernel_rfl) (by kernel_rfl) (by kernel_rfl) (fun _ _ _ h => h) (Or.inl ⟨by rfl, fun w => ?_⟩) (Or.inr hS) ?_; rotate_left; focus (go_simp; first | done | with_reducible rfl | exact rfl)); (try simp only [Act.put, List.setIfInBounds_toArray, List.set_cons_zero, List.set_cons_succ, List.getElem_toArray, List.getElem_cons_zero, List.getElem_cons_succ])
                (refine wpG_ldC (i := 3) [8, 9, 10, 11] (v := ?_) rfl rfl (by kernel_rfl) (by kernel_rfl) (by kernel_rfl) (by kernel_rfl) (fun _ _ _ h => h) (Or.inl ⟨by rfl, ?_⟩) hS ?_; rotate_left; focus (intro w hSw; (try dsimp only at hSw); go_simp; first | done | with_reducible rfl | exact rfl)); (try simp only [Act.put, List.setIfInBounds_toArray, List.set_cons_zero, List.set_cons_succ, List.getElem_toArray, List.getElem_cons_zero, List.getElem_cons_succ])
                (refine wpG_take (i := 4) (v := ?_) rfl rfl (by kernel_rfl) (by kernel_rfl) (by kernel_rfl) (fun _ _ _ h => h) (Or.inl ⟨by rfl, fun w => ?_⟩) (Or.inr hS) ?_; rotate_left; focus (go_simp; first | done | with_reducible rfl | exact rfl)); (try simp only [Act.put, List.setIfInBounds_toArray, List.set_cons_zero, List.set_cons_succ, List.getElem_toArray, List.getElem_cons_zero, List.getElem_cons_succ]); (refine wpG_take (i := 5) (v := ?_) rfl rfl (by kernel_rfl) (by kernel_rfl) (by kernel_rfl) (fun _ _ _ h => h) (Or.inl ⟨by rfl, fun w => ?_⟩) (Or.inr hS) ?_; rotate_left; focus (go_simp; first | done | with_reducible rfl | exact rfl)); (try simp only [Act.put, List.setIfInBounds_toArray, List.set_cons_zero, List.set_cons_succ, List.getElem_toArray, List.getElem_cons_zero, List.getElem_cons_succ]); (refine wpG_take (i := 6) (v := ?_) rfl rfl (by kernel_rfl) (by kernel_rfl) (by kernel_rfl) (fun _ _ _ h => h) (Or.inl ⟨by rfl, fun w => ?_⟩) (Or.inr hS) ?_; rotate_left; focus (go_simp; first | done | with_reducible rfl | exact rfl)); (try simp only [Act.put, List.setIfInBounds_toArray, List.set_cons_zero, List.set_cons_succ, List.getElem_toArray, List.getElem_cons_zero, List.getElem_cons_succ]); (refine wpG_take (i := 7) (v := ?_) rfl rfl (by kernel_rfl) (by kernel_rfl) (by kernel_rfl) (fun _ _ _ h => h) (Or.inl ⟨by rfl, fun w => ?_⟩) (Or.inr hS) ?_; rotate_left; focus (go_simp; first | done | with_reducible rfl | exact rfl)); (try simp only [Act.put, List.setIfInBounds_toArray, List.set_cons_zero, List.set_cons_succ, List.getElem_toArray, List.getElem_cons_zero, List.getElem_cons_succ]); (refine wpG_take (i := 8) (v := ?_) rfl rfl (by kernel_rfl) (by kernel_rfl) (by kernel_rfl) (fun _ _ _ h => h) (Or.inl ⟨by rfl, fun w => ?_⟩) (Or.inr hS) ?_; rotate_left; focus (go_simp; first | done | with_reducible rfl | exact rfl)); (try simp only [Act.put, List.setIfInBounds_toArray, List.set_cons_zero, List.set_cons_succ, List.getElem_toArray, List.getElem_cons_zero, List.getElem_cons_succ])
                (refine wpG_ldC (i := 9) [10, 11] (v := ?_) rfl rfl (by kernel_rfl) (by kernel_rfl) (by kernel_rfl) (by kernel_rfl) (fun _ _ _ h => h) (Or.inl ⟨by rfl, ?_⟩) hS ?_; rotate_left; focus (intro w hSw; (try dsimp only at hSw); go_simp; first | done | with_reducible rfl | exact rfl)); (try simp only [Act.put, List.setIfInBounds_toArray, List.set_cons_zero, List.set_cons_succ, List.getElem_toArray, List.getElem_cons_zero, List.getElem_cons_succ])
                refine wpG_one (i := 10) (by kernel_rfl) rfl (fun K hK => ?_); have HK := Lib.hid hK; clear hK
                go_simp
                refine HK.out _ _ (Or.inr ⟨kb_cellA hS.1 _, kb_cellA hS.2.1 _, kb_cellA hS.2.2 _⟩) ?_
                clear HK K
                (try simp only [Act.put, List.setIfInBounds_toArray, List.set_cons_zero, List.set_cons_succ, List.getElem_toArray, List.getElem_cons_zero, List.getElem_cons_succ])
                refine wpG_one (i := 11) (by kernel_rfl) rfl (fun K hK => ?_); have HK := Lib.hid hK; clear hK
                refine step_append_cells (w0 := W) W.heap.size rfl (.tmp 107) (.tmp 116) 22 25 (.float .f64 0) 1 8 rfl Tryd.underlying22 f_info rfl (by decide) (by decide) ub (rgm (oB q i) k).length ((rgm (oB q i) k).map (Value.float .f64)) [.float .f64 z] rfl rfl rfl (fun u hu => by rw [List.mem_singleton.1 hu]; rfl) (HD.out.r 3 (by simp)) HD.out.b HD.out.b.size (by rw [rgm_len]; omega) ?_
                intro v1 w1 hown hb hg hat
                obtain ⟨e1, e2⟩ := HD.out.app (j := 1) (c := 1) (by simp) (by decide) hown hb hg hat
                obtain ⟨Aa, na, ev, _, _⟩ := ow_sl (e2.r 3 (by simp))
                have ev2 : v1 = .slice Aa ((rgm (oB q i) k) ++ [z]).length na := ev
                rw [List.length_append, rgm_len, List.length_singleton] at ev2
                clear ev
                subst ev2
                have Ha : Hid (QW W (w1.setCell ⟨qb, 1, none⟩ (.slice Aa (k + 1) na)) [qa, qb, qc, qe] [va, (.slice (some ad) (i - 1) cU), vb, (.slice Aa (k + 1) na), nl, uc, vd, ud] [(rgm (dA p) i), (rgm (oAt q) (i - 1)), (rgm (dB p i) i), ((rgm (oB q i) k) ++ [z]), [], (rgm (oTn q) k), (rgm (dD p x) i), (rgm (oAt q) (i - 1))]) := Lib.hid e2
                have g1 : w1.cell? ⟨qb, 1, none⟩ = some ub := kb_cell (e1 1 (by simp)) (i := 1) rfl
                have g2 : w1.frozen? ⟨qb, 1, none⟩ = false := kb_frozen (e1 1 (by simp)) 1
                clear e1 e2 hown hb hg hat
                refine HK.out _ _ (Or.inl (by kernel_rfl)) ?_
                clear HK K hS HD
                (try simp only [Act.put, List.setIfInBounds_toArray, List.set_cons_zero, List.set_cons_succ, List.getElem_toArray, List.getElem_cons_zero, List.getElem_cons_succ])
                (refine wpG_take (i := 12) (v := ?_) rfl rfl (by kernel_rfl) (by kernel_rfl) (by kernel_rfl) (fun _ _ _ h => h) (Or.inl ⟨by rfl, fun w => ?_⟩) (Or.inl (by kernel_rfl)) ?_; rotate_left; focus (go_simp; first | done | with_reducible rfl | exact rfl)); (try simp only [Act.put, List.setIfInBounds_toArray, List.set_cons_zero, List.set_cons_succ, List.getElem_toArray, List.getElem_cons_zero, List.getElem_cons_succ])
                refine wpG_one (i := 13) (by kernel_rfl) rfl (fun K hK => ?_); have HK := Lib.hid hK; clear hK; go_simp; refine HK.out _ _ (Or.inl (by kernel_rfl)) ?_; clear HK K; (try simp only [Act.put, List.setIfInBounds_toArray, List.set_cons_zero, List.set_cons_succ, List.getElem_toArray, List.getElem_cons_zero, List.getElem_cons_succ])
                refine wpG_done (by kernel_rfl) ?_ _
                obtain ⟨wa, hwa⟩ : ∃ v, w1.setCell ⟨qb, 1, none⟩ (.slice Aa (k + 1) na) = v := ⟨_, rfl⟩
                rw [hwa] at Ha
                simp only [hwa]
                clear hwa g1 g2
                have c0 : wa.cell? ⟨qa, 1, none⟩ = some (.slice (some ad) (i - 1) cU) := kb_cell (Ha.out.q 0 (by simp)).1 (i := 1) rfl
                obtain ⟨AU, cU', eU, _, fU⟩ := ow_sl (Ha.out.r 1 (by simp))
                have eU2 : Value.slice (some ad) (i - 1) cU = .slice AU (rgm (oAt q) (i - 1)).length cU' := eU
                have eU3 : some ad = AU := by injection eU2
                clear eU eU2
                subst eU3
                obtain ⟨ad', hA3, m1⟩ := (show Fl wa (some ad) (rgm (oAt q) (i - 1)) from fU).at (i := k) (by rw [rgm_len]; have := HI.out; omega)
                injection hA3 with hA3
                subst hA3
                rw [rgm_get, HY.out] at m1
                have f1 : wa.frozen? ⟨qc, 1, none⟩ = false := kb_frozen (Ha.out.q 2 (by simp)).1 1
                have c1 : wa.cell? ⟨qc, 1, none⟩ = some uc := kb_cell (Ha.out.q 2 (by simp)).1 (i := 1) rfl
                clear fU
                by_cases hpar : k % 2 = 0
                · have p1 : ((k : Int) % 2 == 0) = true := by rw [beq_iff_eq]; omega
                  have p2 : ((k : Int).tmod 2 == 0) = true := by rw [Int.tmod_eq_emod_of_nonneg (by omega)]; exact p1
                  rw [if_pos hpar] at OT
                  clear hpar
                  go_wp2_with (first
                    | (at_builtin; (refine print_append_cells (w0 := W) W.heap.size rfl (.tmp 130) (.tmp 132) 22 25 (.float .f64 0) 1 8 rfl Tryd.underlying22 f_info rfl (by decide) (by decide) uc (rgm (oTn q) k).length ((rgm (oTn q) k).map (Value.float .f64)) [.float .f64 (fneg y)] rfl rfl rfl (fun u hu => by rw [List.mem_singleton.1 hu]; rfl) (Ha.out.r 5 (by simp)) Ha.out.b Ha.out.b.size (by rw [rgm_len]; omega) ?_); intro v1 w1 hown hb hg hat; obtain ⟨e1, e2⟩ := Ha.out.app (j := 2) (c := 1) (by simp) (by decide) hown hb hg hat; obtain ⟨Ab, nb, ev, _, _⟩ := ow_sl (e2.r 5 (by simp)); have ev2 : v1 = .slice Ab ((rgm (oTn q) k) ++ [(fneg y)]).length nb := ev; rw [List.length_append, rgm_len, List.length_singleton] at ev2; clear ev; subst ev2; have Hb : Hid (QW W (w1.setCell ⟨qc, 1, none⟩ (.slice Ab (k + 1) nb)) [qa, qb, qc, qe] [va, (.slice (some ad) (i - 1) cU), vb, (.slice Aa (k + 1) na), nl, (.slice Ab (k + 1) nb), vd, ud] [(rgm (dA p) i), (rgm (oAt q) (i - 1)), (rgm (dB p i) i), ((rgm (oB q i) k) ++ [z]), [], ((rgm (oTn q) k) ++ [(fneg y)]), (rgm (dD p x) i), (rgm (oAt q) (i - 1))]) := Lib.hid e2; have g1 : w1.cell? ⟨qc, 1, none⟩ = some uc := kb_cell (e1 2 (by simp)) (i := 1) rfl; have g2 : w1.frozen? ⟨qc, 1, none⟩ = false := kb_frozen (e1 2 (by simp)) 1; clear e1 e2 hown hb hg hat))
                  go_roundw
                  case rel => exact ⟨k + 1, _, _, by go_num, HI.out, Lib.hid (by rw [rgm_succ, rgm_succ, OB.out, OT.out]; exact Hb.out)⟩
                  case measure => have := HI.out; simp [intOf]; omega
                · have p1 : ((k : Int) % 2 == 0) = false := by rw [beq_eq_false_iff_ne]; omega
                  have p2 : ((k : Int).tmod 2 == 0) = false := by rw [Int.tmod_eq_emod_of_nonneg (by omega)]; exact p1
                  rw [if_neg hpar] at OT
                  clear hpar
                  go_wp2_with (first
                    | (at_builtin; (refine print_append_cells (w0 := W) W.heap.size rfl (.tmp 130) (.tmp 132) 22 25 (.float .f64 0) 1 8 rfl Tryd.underlying22 f_info rfl (by decide) (by decide) uc (rgm (oTn q) k).length ((rgm (oTn q) k).map (Value.float .f64)) [.float .f64 y] rfl rfl rfl (fun u hu => by rw [List.mem_singleton.1 hu]; rfl) (Ha.out.r 5 (by simp)) Ha.out.b Ha.out.b.size (by rw [rgm_len]; omega) ?_); intro v1 w1 hown hb hg hat; obtain ⟨e1, e2⟩ := Ha.out.app (j := 2) (c := 1) (by simp) (by decide) hown hb hg hat; obtain ⟨Ab, nb, ev, _, _⟩ := ow_sl (e2.r 5 (by simp)); have ev2 : v1 = .slice Ab ((rgm (oTn q) k) ++ [y]).length nb := ev; rw [List.length_append, rgm_len, List.length_singleton] at ev2; clear ev; subst ev2; have Hb : Hid (QW W (w1.setCell ⟨qc, 1, none⟩ (.slice Ab (k + 1) nb)) [qa, qb, qc, qe] [va, (.slice (some ad) (i - 1) cU), vb, (.slice Aa (k + 1) na), nl, (.slice Ab (k + 1) nb), vd, ud] [(rgm (dA p) i), (rgm (oAt q) (i - 1)), (rgm (dB p i) i), ((rgm (oB q i) k) ++ [z]), [], ((rgm (oTn q) k) ++ [y]), (rgm (dD p x) i), (rgm (oAt q) (i - 1))]) := Lib.hid e2; have g1 : w1.cell? ⟨qc, 1, none⟩ = some uc := kb_cell (e1 2 (by simp)) (i := 1) rfl; have g2 : w1.frozen? ⟨qc, 1, none⟩ = false := kb_frozen (e1 2 (by simp)) 1; clear e1 e2 hown hb hg hat))
                  go_roundw
                  case rel => exact ⟨k + 1, _, _, by go_num, HI.out, Lib.hid (by rw [rgm_succ, rgm_succ, OB.out, OT.out]; exact Hb.out)⟩
                  case measure => have := HI.out; simp [intOf]; omega
              · have l1 : decide (k < i - 1) = false := decide_eq_false hlt
                have hin : k = i - 1 := by omega
                subst hin
                clear hlt l1 hk
                obtain ⟨A0, n0, e0, m0, _⟩ := ow_sl (hq.out.r 0 (by simp))
                have e0' : va = .slice A0 (rgm (dA p) i).length n0 := e0
                have m0' : (rgm (dA p) i).length ≤ n0 := m0
                rw [rgm_len] at e0' m0'
                clear e0 m0
                subst e0'
                obtain ⟨A1, n1, e1, m1, _⟩ := ow_sl (hq.out.r 1 (by simp))
                have e1' : ua = .slice A1 (rgm (oAt q) (i - 1)).length n1 := e1
                have m1' : (rgm (oAt q) (i - 1)).length ≤ n1 := m1
                rw [rgm_len] at e1' m1'
                clear e1 m1
                subst e1'
                obtain ⟨A2, n2, e2, m2, _⟩ := ow_sl (hq.out.r 2 (by simp))
                have e2' : vb = .slice A2 (rgm (dB p i) i).length n2 := e2
                have m2' : (rgm (dB p i) i).length ≤ n2 := m2
                rw [rgm_len] at e2' m2'
                clear e2 m2
                subst e2'
                obtain ⟨A3, n3, e3, m3, _⟩ := ow_sl (hq.out.r 3 (by simp))
                have e3' : ub = .slice A3 (rgm (oB q i) (i - 1)).length n3 := e3
                have m3' : (rgm (oB q i) (i - 1)).length ≤ n3 := m3
                rw [rgm_len] at e3' m3'
                clear e3 m3
                subst e3'
                obtain ⟨A5, n5, e5, m5, _⟩ := ow_sl (hq.out.r 5 (by simp))
                have e5' : uc = .slice A5 (rgm (oTn q) (i - 1)).length n5 := e5
                have m5' : (rgm (oTn q) (i - 1)).length ≤ n5 := m5
                rw [rgm_len] at e5' m5'
                clear e5 m5
                subst e5'
                obtain ⟨A6, n6, e6, m6, _⟩ := ow_sl (hq.out.r 6 (by simp))
                have e6' : vd = .slice A6 (rgm (dD p x) i).length n6 := e6
                have m6' : (rgm (dD p x) i).length ≤ n6 := m6
                rw [rgm_len] at e6' m6'
                clear e6 m6
                subst e6'
                obtain ⟨A7, n7, e7, m7, _⟩ := ow_sl (hq.out.r 7 (by simp))
                have e7' : ud = .slice A7 (rgm (oAt q) (i - 1)).length n7 := e7
                have m7' : (rgm (oAt q) (i - 1)).length ≤ n7 := m7
                rw [rgm_len] at e7' m7'
                clear e7 m7
                subst e7'
                have c0 : wr.cell? ⟨qa, 0, none⟩ = some (.slice A0 i n0) := kb_cell (hq.out.q 0 (by simp)).1 (i := 0) rfl
                have c1 : wr.cell? ⟨qc, 0, none⟩ = some nl := kb_cell (hq.out.q 2 (by simp)).1 (i := 0) rfl
                have f1 : wr.frozen? ⟨qc, 0, none⟩ = false := kb_frozen (hq.out.q 2 (by simp)).1 0
                obtain ⟨hr, hb, ho, hs⟩ := hq.out.fin (j := 2) (by simp) (.slice A0 i n0)
                have k0 := (ho 0 (by simp) (by decide)).trans (hq.out.q 0 (by simp)).1
                have k1 := (ho 1 (by simp) (by decide)).trans (hq.out.q 1 (by simp)).1
                have k3 := (ho 3 (by simp) (by decide)).trans (hq.out.q 3 (by simp)).1
                have F0 : Fl (wr.setCell ⟨qc, 0, none⟩ (.slice A0 i n0)) A0 (rgm (dA p) i) := fl_of (A := A0) (m := i) (c := n0) (l := (rgm (dA p) i)) (by rw [rgm_len]) (hr 0 (by simp))
                have F1 : Fl (wr.setCell ⟨qc, 0, none⟩ (.slice A0 i n0)) A1 (rgm (oAt q) (i - 1)) := fl_of (A := A1) (m := i - 1) (c := n1) (l := (rgm (oAt q) (i - 1))) (by rw [rgm_len]) (hr 1 (by simp))
                have F2 : Fl (wr.setCell ⟨qc, 0, none⟩ (.slice A0 i n0)) A2 (rgm (dB p i) i) := fl_of (A := A2) (m := i) (c := n2) (l := (rgm (dB p i) i)) (by rw [rgm_len]) (hr 2 (by simp))
                have F3 : Fl (wr.setCell ⟨qc, 0, none⟩ (.slice A0 i n0)) A3 (rgm (oB q i) (i - 1)) := fl_of (A := A3) (m := i - 1) (c := n3) (l := (rgm (oB q i) (i - 1))) (by rw [rgm_len]) (hr 3 (by simp))
                have F5 : Fl (wr.setCell ⟨qc, 0, none⟩ (.slice A0 i n0)) A5 (rgm (oTn q) (i - 1)) := fl_of (A := A5) (m := i - 1) (c := n5) (l := (rgm (oTn q) (i - 1))) (by rw [rgm_len]) (hr 5 (by simp))
                have F6 : Fl (wr.setCell ⟨qc, 0, none⟩ (.slice A0 i n0)) A6 (rgm (dD p x) i) := fl_of (A := A6) (m := i) (c := n6) (l := (rgm (dD p x) i)) (by rw [rgm_len]) (hr 6 (by simp))
                have F7 : Fl (wr.setCell ⟨qc, 0, none⟩ (.slice A0 i n0)) A7 (rgm (oAt q) (i - 1)) := fl_of (A := A7) (m := i - 1) (c := n7) (l := (rgm (oAt q) (i - 1))) (by rw [rgm_len]) (hr 7 (by simp))
                obtain ⟨w6, hw6⟩ : ∃ v, wr.setCell ⟨qc, 0, none⟩ (.slice A0 i n0) = v := ⟨_, rfl⟩
                have K : Hid (PQ W w6 qa qb qc qe #[.slice A0 i n0, .slice A1 (i - 1) n1] #[.slice A2 i n2, .slice A3 (i - 1) n3] #[.slice A0 i n0, .slice A5 (i - 1) n5] #[.slice A6 i n6, .slice A7 (i - 1) n7]) := Lib.hid (by rw [← hw6]; exact ⟨hb, k0, k1, hs, k3⟩)
                have B6 : Hid (Below w6.heap.size w6 w6) := Lib.hid (Below.refl _ _)
                have T6 := HT.out.below K.out.b
                obtain ⟨⟨q0, q1, q2, q3⟩, g1, g2, g3⟩ := turned (n := i) SP.out SQ.out x1 x2 (by omega) (by omega)
                have wx : W64 (fi x) := (fi_ok (n := x) (by omega) (by omega)).1
                have wA : ∀ y ∈ rgm (dA p) i, W64 y := fun y hy => by obtain ⟨j, _, rfl⟩ := rgm_mem hy; exact (dA_ok SP.out j).1
                have wB : ∀ y ∈ rgm (dB p i) i, W64 y := fun y hy => by obtain ⟨j, _, rfl⟩ := rgm_mem hy; exact (dA_ok SP.out (i - 1 - j)).1
                have wD : ∀ y ∈ rgm (dD p x) i, W64 y := fun y hy => by obtain ⟨j, _, rfl⟩ := rgm_mem hy; exact (dD_ok SP.out x1 x2 j).2.1
                have wO : ∀ y ∈ rgm (oAt q) (i - 1), W64 y := fun y hy => by obtain ⟨j, _, rfl⟩ := rgm_mem hy; exact (oAt_ok SQ.out j).1
                have wP : ∀ y ∈ rgm (oB q i) (i - 1), W64 y := fun y hy => by obtain ⟨j, _, rfl⟩ := rgm_mem hy; exact (oAt_ok SQ.out (i - 2 - j)).1
                have wT : ∀ y ∈ rgm (oTn q) (i - 1), W64 y := fun y hy => by obtain ⟨j, _, rfl⟩ := rgm_mem hy; exact (oTn_ok SQ.out j).1
                rw [hw6] at F0 F1 F2 F3 F5 F6 F7
                obtain ⟨X, hX⟩ : ∃ X, exactN (rgm (dA p) i) (rgm (oAt q) (i - 1)) (fi x) = X := ⟨_, rfl⟩
                have z0 : ∀ w, Below w6.heap.size w6 w → Calls Tryd.prog 15 #[.agg #[.slice A0 i n0, .slice A1 (i - 1) n1], .float .f64 (floatOfInt .f64 x)] w fun e w' => e = .returned (.tuple #[.int .i64 X, .int .i64 0]) ∧ Below w.heap.size w w' := fun w h => by
                  have := exact_c A0 A1 n0 n1 (rgm (dA p) i) (rgm (oAt q) (i - 1)) (fi x) w (F0.below h) (F1.below h) (by rw [rgm_len]; exact m0') (by rw [rgm_len]; exact m1') wA wO wx (T6.below h)
                  rw [q0, hX, rgm_len, rgm_len] at this
                  exact this
                have E0 := Lib.hid z0
                have z1 : ∀ w, Below w6.heap.size w6 w → Calls Tryd.prog 15 #[.agg #[.slice A2 i n2, .slice A3 (i - 1) n3], .float .f64 (floatOfInt .f64 x)] w fun e w' => e = .returned (.tuple #[.int .i64 X, .int .i64 0]) ∧ Below w.heap.size w w' := fun w h => by
                  have := exact_c A2 A3 n2 n3 (rgm (dB p i) i) (rgm (oB q i) (i - 1)) (fi x) w (F2.below h) (F3.below h) (by rw [rgm_len]; exact m2') (by rw [rgm_len]; exact m3') wB wP wx (T6.below h)
                  rw [q1, g1, hX, rgm_len, rgm_len] at this
                  exact this
                have E1 := Lib.hid z1
                have z2 : ∀ w, Below w6.heap.size w6 w → Calls Tryd.prog 15 #[.agg #[.slice A0 i n0, .slice A5 (i - 1) n5], .float .f64 (floatOfInt .f64 x)] w fun e w' => e = .returned (.tuple #[.int .i64 X, .int .i64 0]) ∧ Below w.heap.size w w' := fun w h => by
                  have := exact_c A0 A5 n0 n5 (rgm (dA p) i) (rgm (oTn q) (i - 1)) (fi x) w (F0.below h) (F5.below h) (by rw [rgm_len]; exact m0') (by rw [rgm_len]; exact m5') wA wT wx (T6.below h)
                  rw [q2, g2, hX, rgm_len, rgm_len] at this
                  exact this
                have E2 := Lib.hid z2
                have z3 : ∀ w, Below w6.heap.size w6 w → Calls Tryd.prog 15 #[.agg #[.slice A6 i n6, .slice A7 (i - 1) n7], .float .f64 0] w fun e w' => e = .returned (.tuple #[.int .i64 X, .int .i64 0]) ∧ Below w.heap.size w w' := fun w h => by
                  have := exact_c A6 A7 n6 n7 (rgm (dD p x) i) (rgm (oAt q) (i - 1)) 0 w (F6.below h) (F7.below h) (by rw [rgm_len]; exact m6') (by rw [rgm_len]; exact m7') wD wO zeroW (T6.below h)
                  rw [q3, g3, hX, rgm_len, rgm_len] at this
                  exact this
                have E3 := Lib.hid z3
                have cc0 := kb_cell K.out.k0 (i := 0) rfl
                have cc1 := kb_cell K.out.k0 (i := 1) rfl
                have cc2 := kb_cell K.out.k1 (i := 0) rfl
                have cc3 := kb_cell K.out.k1 (i := 1) rfl
                have cc4 := kb_cell K.out.k2 (i := 0) rfl
                have cc5 := kb_cell K.out.k2 (i := 1) rfl
                have cc6 := kb_cell K.out.k3 (i := 0) rfl
                have cc7 := kb_cell K.out.k3 (i := 1) rfl
                clear z0 z1 z2 z3 F0 F1 F2 F3 F5 F6 F7 wA wB wD wO wP wT wx q0 q1 q2 q3 g1 g2 g3 hX T6 hr hb ho hs k0 k1 k3 hq m0' m1' m2' m3' m5' m6' m7'
                go_upto_region 30 with (fail)
                try simp only [hw6]
                clear hw6 c0 c1 f1
                go_wp2_with (first
                  | (go_at_call 15; (with_reducible (first | refine (E0.out _ B6.out).mono ?_ | refine (E1.out _ B6.out).mono ?_ | refine (E2.out _ B6.out).mono ?_ | refine (E3.out _ B6.out).mono ?_)); rintro e w7 ⟨rfl, hb⟩; have B6 := Lib.hid (bl_then B6.out hb); have K := Lib.hid (K.out.then hb); have cc0 := kb_cell K.out.k0 (i := 0) rfl; have cc1 := kb_cell K.out.k0 (i := 1) rfl; have cc2 := kb_cell K.out.k1 (i := 0) rfl; have cc3 := kb_cell K.out.k1 (i := 1) rfl; have cc4 := kb_cell K.out.k2 (i := 0) rfl; have cc5 := kb_cell K.out.k2 (i := 1) rfl; have cc6 := kb_cell K.out.k3 (i := 0) rfl; have cc7 := kb_cell K.out.k3 (i := 1) rfl; clear hb))
                go_ret
                exact ⟨by simp, by first | exact K.out.b | exact bl_drewN K.out.b _⟩
end Go.Proofs.YtfjiojdnbdfenaaDoor


/- The frame of the rows of this seat: the one listed variable (math/bits' table) as cells; a start that fits. -/
namespace Go.Proofs.YtfjiojdnbdfenaaDoor
open Go Go.ChangeShapes Go.WideShapes Go.RowKit GFl
set_option maxRecDepth 100000

theorem Tryd.own : ownKnob Tryd.prog.godebug = none := by kernel_rfl
theorem w64_of {x : Nat} (h : (Lit.float .f64 x).wf = true) : W64 x := W64.mk (by simpa [Lit.wf] using h)
theorem i64_of {x : Int} (h : (Lit.int .i64 x).wf = true) : -9223372036854775808 ≤ x ∧ x ≤ 9223372036854775807 := by simpa [Lit.wf, IntKind.min, IntKind.max, IntKind.signed, IntKind.bits] using h
theorem no_standIn {ps : Array TypeId} {fn : Func} (h : fn.params = ps) (hall : (ps.toList.all fun t => !Tryd.prog.wantsStandIn t) = true) : ∀ (j : Nat) (t : TypeId), fn.params[j]? = some t → Tryd.prog.wantsStandIn t = false := by
  intro j t ht
  rw [h] at ht
  have hm : t ∈ ps.toList := by rw [Array.mem_toList_iff]; exact Array.mem_of_getElem? ht
  have := List.all_eq_true.1 hall t hm
  simpa using this
def tabZs : List Int := Lib.deBruijn64tab.map fun (n : Nat) => (n : Int)
def laidL : List (String × DataW Unit) := [("math/bits.deBruijn64tab", Rows.laid_math_bits_deBruijn64tab)]
theorem laidL_eq : laidL = ("math/bits.deBruijn64tab", Lib.tabData .u8 tabZs) :: [] := by kernel_rfl
theorem tab_named : Tryd.prog.globalNamed "math/bits.deBruijn64tab" = some 1 := by kernel_rfl
theorem tab_type : (Tryd.prog.globals[1]?).map (·.type) = some 114 := by kernel_rfl
theorem tab_of_laid {W : World} (h : laidMet Tryd.prog laidL W) : Tab W := by
  rw [laidL_eq] at h
  have ht := Lib.tabIs_of_head tab_named tab_type Tryd.underlying114 Tryd.underlying5 (by kernel_rfl) (by kernel_rfl) h
  intro j hj
  have hc := ht.cell tab_named j (by simpa [tabZs] using hj)
  rw [hc]
  congr 2
  simp [tabZs, List.getD, hj]

def tabCells : Array Value := (tabZs.map fun z => Value.int .u8 z).toArray
noncomputable def laidWorld (os : Os) : World :=
  { World.holding Tryd.prog os ⟨#[], #[], []⟩ with heap := (World.holding Tryd.prog os ⟨#[], #[], []⟩).heap.modify 1 fun
      | .cells _ t frozen => .cells tabCells t frozen
      | o => o }
theorem laidWorld_row (os : Os) (args : Array Value) : ((laidWorld os).forCall (fun _ _ => 0) ⟨#[], args, []⟩).memory.heap[1]? = some (.cells tabCells 114 (0, 0)) := by kernel_rfl
theorem tab_places : ((MemPlace.row ⟨1, 0, none⟩ tabCells.size ++ ([] : List MemPlace) ++ []).Nodup) := by decide
theorem laidWorld_met (os : Os) (args : Array Value) : laidMet Tryd.prog laidL ((laidWorld os).forCall (fun _ _ => 0) ⟨#[], args, []⟩).memory := by
  refine ⟨_, ⟨1, 114, tabCells, 8, [], [], by kernel_rfl, by kernel_rfl, by kernel_rfl, by kernel_rfl, rfl, rfl⟩, tab_places, fun b off h => ?_⟩
  have h' : MemPlace.cell b off ∈ (MemPlace.row ⟨1, 0, none⟩ tabCells.size : List MemPlace) := by simpa using h
  have hall : (MemPlace.row ⟨1, 0, none⟩ tabCells.size : List MemPlace).all (fun p => match p with | .cell b _ => b == 1 | _ => false) = true := by decide
  have hb := List.all_eq_true.1 hall _ h'
  obtain rfl : b = 1 := by simpa using hb
  refine ⟨⟨_, _, laidWorld_row os args⟩, fun u v hc => ?_⟩
  exfalso
  simp only [World.cell?, laidWorld_row os args] at hc
  have hc' : tabCells[off]? = some (.iface u v) := by simpa using hc
  unfold tabCells at hc'
  simp at hc'
end Go.Proofs.YtfjiojdnbdfenaaDoor


/- Lists of floats, chains and lists of small numbers as arguments of a row: opened. -/
namespace Go.Proofs.YtfjiojdnbdfenaaDoor
open Go Go.ChangeShapes Go.WideShapes Go.RowKit Go.Deep GFl
open Go.Proofs.YtfjiojdnbdfenaaDoorW.PrintWords (Kd)
set_option maxRecDepth 100000

theorem jk_laidOut : laidOutB Tryd.prog = true := by kernel_rfl
theorem rs_rec1 : Tryd.prog.readableRec 22 = true := by kernel_rfl
theorem rs_row1 : (22 : TypeId) < Tryd.prog.types.size := of_decide_eq_true (by kernel_rfl)
theorem rs_rec2 : Tryd.prog.readableRec 24 = true := by kernel_rfl
theorem rs_row2 : (24 : TypeId) < Tryd.prog.types.size := of_decide_eq_true (by kernel_rfl)
theorem rs_cf : Tryd.prog.cellsOf 25 = 1 := by kernel_rfl
theorem rs_cc : Tryd.prog.cellsOf 24 = 2 := by kernel_rfl
theorem rs_cs : Tryd.prog.cellsOf 22 = 1 := by kernel_rfl
theorem list_of {α : Type} {p : Nat → α → Prop} : ∀ n, (∀ i, i < n → ∃ j, p i j) → ∃ l : List α, l.length = n ∧ ∀ i j, l[i]? = some j → p i j
  | 0, _ => ⟨[], rfl, fun i j h => by simp at h⟩
  | n + 1, h => by
    obtain ⟨l, hl, hp⟩ := list_of n (fun i hi => h i (by omega))
    obtain ⟨j, hj⟩ := h n (by omega)
    refine ⟨l ++ [j], by simp [hl], fun i x hx => ?_⟩
    rcases Nat.lt_or_ge i l.length with hi | hi
    · rw [List.getElem?_append_left hi] at hx; exact hp i x hx
    · rw [List.getElem?_append_right hi] at hx
      have e : i - l.length = 0 := by
        have := (List.getElem?_eq_some_iff.1 hx).1
        simp at this; omega
      rw [e] at hx
      have : x = j := by simpa using hx.symm
      subst this
      have : i = n := by omega
      subst this; exact hj
section
variable {H : Type} {enc : TypeId × Value → H} {P : Program} {w : World} {base : Nat} {spare : Nat → Bool} {held : Bool}
theorem trod_flt {k : FloatKind} {t : TypeId} {fuel : Nat} {cs : List Value} {x : DataW H × List MemPlace} (ht : P.underlying t = some (.float k)) (h : DataW.trod enc P w base spare held fuel t cs = some x) : ∃ n, cs = [.float k n] ∧ (Lit.float k n).wf = true := by
  cases fuel with
  | zero => simp [DataW.trod] at h
  | succ n =>
    unfold DataW.trod at h
    rw [ht] at h
    split at h <;> simp_all
end
section
variable {H : Type} {enc : TypeId × Value → H} {w : World} {base : Nat} {spare : Nat → Bool} {held : Bool}
theorem open_fls {fuel : Nat} {c : Value} {x : DataW H × List MemPlace} (h : DataW.trod enc Tryd.prog w base spare held fuel 22 [c] = some x) :
    ∃ (A : Option Addr) (cap : Nat) (l : List Nat), c = .slice A l.length cap ∧ l.length ≤ cap ∧ Fl w A l ∧ (∀ y ∈ l, W64 y) ∧ (A = none → cap = 0 ∧ l = []) := by
  rcases open_slice1 Tryd.underlying22 rs_cf h with ⟨hc, _⟩ | ⟨ad, len, cap, m, n, V, D, Pl, hc, hb, hl, hm, hmm, _, hi⟩
  · have hc : c = .slice none 0 0 := by simpa using hc
    subst hc
    exact ⟨none, 0, [], rfl, Nat.le_refl _, Fl.mk (by simp) (fun h => by simp at h), fun y hy => (by cases hy), fun _ => ⟨rfl, rfl⟩⟩
  · have hc : c = .slice (some ad) len cap := by simpa using hc
    subst hc
    have hlm : len ≤ m := by rw [hmm]; split <;> omega
    obtain ⟨l, hll, hp⟩ := list_of (p := fun i y => w.cell? (ad.add i) = some (.float .f64 y) ∧ W64 y) len (fun i hil => by
      obtain ⟨hc, ht⟩ := hi i (by omega)
      obtain ⟨y, he, hw⟩ := trod_flt Tryd.underlying25 ht
      have he : V i = .float .f64 y := by simpa using he
      exact ⟨y, by rw [hc, he], w64_of hw⟩)
    subst hll
    have hmx : cap ≤ 9223372036854775807 := hm
    refine ⟨some ad, cap, l, rfl, hl, Fl.mk (by omega) (fun _ => ⟨ad, rfl, fun i hi => (hp i _ (List.getElem?_eq_getElem hi)).1⟩), fun y hy => ?_, fun h => by cases h⟩
    obtain ⟨i, hi1, rfl⟩ := List.getElem_of_mem hy
    exact (hp i _ (List.getElem?_eq_getElem hi1)).2
theorem open_reals {r : Reach} {b0 : Nat} {v : Value} {d : DataW H} {p : List MemPlace} (hv : Value.okWide Tryd.prog w r b0 22 v) (h : DataW.Trod enc Tryd.prog w base spare held 22 v d p) :
    ∃ (A : Option Addr) (cap : Nat) (l : List Nat), v = .slice A l.length cap ∧ l.length ≤ cap ∧ Fl w A l ∧ (∀ y ∈ l, W64 y) ∧ (A = none → cap = 0 ∧ l = []) := by
  obtain ⟨a, len, cap, rfl⟩ := okWide_slice Tryd.underlying22 hv
  obtain ⟨fuel, hf⟩ := h
  exact open_fls hf
theorem open_chain {r : Reach} {b0 : Nat} {v : Value} {d : DataW H} {p : List MemPlace} (hv : Value.okWide Tryd.prog w r b0 24 v) (h : DataW.Trod enc Tryd.prog w base spare held 24 v d p) :
    ∃ (A B : Option Addr) (cA cB : Nat) (l m : List Nat), v = .agg #[.slice A l.length cA, .slice B m.length cB] ∧ l.length ≤ cA ∧ m.length ≤ cB ∧ Fl w A l ∧ Fl w B m ∧ (∀ y ∈ l, W64 y) ∧ (∀ y ∈ m, W64 y) ∧ (A = none → cA = 0 ∧ l = []) ∧ (B = none → cB = 0 ∧ m = []) := by
  obtain ⟨cs, rfl, _⟩ := okWide_struct Tryd.underlying24 hv
  obtain ⟨fuel, h⟩ := h
  obtain ⟨xs, n, _, hx, hlen, hxl, hf⟩ := DataW.trod_struct Tryd.underlying24 h
  rw [rs_cc] at hlen
  obtain ⟨cs⟩ := cs
  change cs.length = 2 at hlen
  match cs, hlen with
  | [c0, c1], _ =>
    have h0 := hf 0 _ rfl
    have h1 := hf 1 _ rfl
    have hs : xs.length = 2 := hxl
    have g0 : DataW.trod enc Tryd.prog w base spare held n 22 [c0] = xs[0]? := h0
    have g1 : DataW.trod enc Tryd.prog w base spare held n 22 [c1] = xs[1]? := h1
    rw [List.getElem?_eq_getElem (by omega)] at g0 g1
    obtain ⟨A, cA, l, rfl, j1, j2, j3, j4⟩ := open_fls g0
    obtain ⟨B, cB, m, rfl, k1, k2, k3, k4⟩ := open_fls g1
    exact ⟨A, B, cA, cB, l, m, rfl, j1, k1, j2, k2, j3, k3, j4, k4⟩
end
end Go.Proofs.YtfjiojdnbdfenaaDoor


/- Lists of small whole numbers as arguments of a row: opened. -/
namespace Go.Proofs.YtfjiojdnbdfenaaDoor
open Go Go.ChangeShapes Go.WideShapes Go.RowKit Go.Deep GFl
set_option maxRecDepth 100000

theorem rt_rec : Tryd.prog.readableRec 44 = true := by kernel_rfl
theorem rt_row : (44 : TypeId) < Tryd.prog.types.size := of_decide_eq_true (by kernel_rfl)
theorem rt_c : Tryd.prog.cellsOf 45 = 1 := by kernel_rfl
theorem i16_of {x : Int} (h : (Lit.int .i16 x).wf = true) : -32768 ≤ x ∧ x ≤ 32767 := by simpa [Lit.wf, IntKind.min, IntKind.max, IntKind.signed, IntKind.bits] using h
section
variable {H : Type} {enc : TypeId × Value → H} {w : World} {base : Nat} {spare : Nat → Bool} {held : Bool}
theorem open_smalls {r : Reach} {b0 : Nat} {v : Value} {d : DataW H} {p : List MemPlace} (hv : Value.okWide Tryd.prog w r b0 44 v) (h : DataW.Trod enc Tryd.prog w base spare held 44 v d p) :
    ∃ (A : Option Addr) (cap : Nat) (l : List Int), v = .slice A l.length cap ∧ l.length ≤ cap ∧ Is w A l ∧ Smi l ∧ (A = none → cap = 0 ∧ l = []) := by
  obtain ⟨a, len, cap, rfl⟩ := okWide_slice Tryd.underlying44 hv
  obtain ⟨fuel, hf⟩ := h
  rcases open_ints Tryd.underlying44 Tryd.underlying45 rt_c hf with ⟨hc, _⟩ | ⟨ad, len', cap', zs, hc, hb, hl, hm, hz, _, hi, hw⟩
  · have hc : Value.slice a len cap = .slice none 0 0 := by simpa [Value.cells] using hc
    injection hc with h1 h2 h3
    subst h1 h2 h3
    exact ⟨none, 0, [], rfl, Nat.le_refl _, ⟨by simp, fun h => by simp at h⟩, fun y hy => (by cases hy), fun _ => ⟨rfl, rfl⟩⟩
  · have hc : Value.slice a len cap = .slice (some ad) len' cap' := by simpa [Value.cells] using hc
    injection hc with h1 h2 h3
    subst h1 h2 h3
    have hlz : len ≤ zs.length := by rw [hz]; split <;> omega
    have hmx : cap ≤ 9223372036854775807 := hm
    have hll : (zs.take len).length = len := by rw [List.length_take]; omega
    refine ⟨some ad, cap, zs.take len, by rw [hll], by rw [hll]; exact hl, ⟨by rw [hll]; omega, fun _ => ⟨ad, rfl, fun i hi1 => ?_⟩⟩, fun y hy => i16_of (hw y (List.mem_of_mem_take hy)), fun h => by cases h⟩
    rw [hll] at hi1
    rw [hi i (by omega), List.getElem_take, List.getD_eq_getElem?_getD, List.getElem?_eq_getElem (by omega)]; rfl
end
end Go.Proofs.YtfjiojdnbdfenaaDoor


/- girder/girderlaw17.SturmTurned answers true for every input, and leaves each argument as it was: the table of math/bits is tied to the program's text.
 Conditions: none of its own. -/
namespace Go.Proofs.YtfjiojdnbdfenaaDoor
open Go Go.ChangeShapes Go.WideShapes Go.RowKit GFl

set_option maxRecDepth 100000 in
theorem sturmTurned_lifted (os : Os) (started : os.Started) (H : Type) (enc : TypeId × Value → H) :
    ReturnsInHanded {} Tryd.checked os 8 .any (fun w args => (Rows.sturmTurnedSpec.pre enc Tryd.prog Tryd.f8 [] false w args ∧ laidMet Tryd.prog laidL w) ∧ sizedMet enc Tryd.prog Tryd.f8 (OpenSpec.ofChange Rows.sturmTurnedSpec) false w args) (Rows.sturmTurnedSpec.post enc Tryd.prog Tryd.f8 false true false false) := by
  refine returnsInHanded_of_change_and (C := Tryd.checked) (X := fun w _ => laidMet Tryd.prog laidL w) (fun _ _ _ hh h => h.of_heap hh) Tryd.own started (by kernel_rfl) Tryd.func8
    (ChangeSpec.witness_at (enc := enc) (C := Tryd.checked) (os := os) (X := fun w _ => laidMet Tryd.prog laidL w) false (laidWorld os) #[.slice none 0 0, .slice none 0 0, .int .i16 0] 8 rfl (by kernel_rfl) (by kernel_rfl) (by kernel_rfl) (by kernel_rfl) (by kernel_rfl) (laidWorld_met os _)) ?_
  intro W base args ds gs before hval0 hW _ hsz hL _
  have hval : ∀ (j : Nat) t v, Tryd.f8.params[j]? = some t → args[j]? = some v → Value.okWide Tryd.prog W .any base t v := hval0
  have hW' := hW
  obtain ⟨p, q, hA0, hV0, rfl, hfz, hnd⟩ := hW
  have hA : DataW.TrodAll enc Tryd.prog W 0 (fun _ => true) true Tryd.f8.params.toList args.toList ds p := hA0
  have hV : DataW.TrodVars enc Tryd.prog W (fun _ => true) [] gs q := hV0
  rw [Tryd.params8] at hA hval
  obtain ⟨v0, v1, v2, d0, d1, d2, p0, p1, p2, rfl, rfl, rfl, h0, h1, h2⟩ := trodAll_three hA
  have k0 := h0
  have lt0 : ∀ x ∈ p0, x.block < W.heap.size := by obtain ⟨m, hm⟩ := h0; exact DataW.trod_lt m _ _ _ hm
  obtain ⟨A0, c0, l0, rfl, hl0, hC0, wl0, hN0⟩ := open_smalls (hval 0 44 v0 rfl rfl) h0
  have k1 := h1
  have lt1 : ∀ x ∈ p1, x.block < W.heap.size := by obtain ⟨m, hm⟩ := h1; exact DataW.trod_lt m _ _ _ hm
  obtain ⟨A1, c1, l1, rfl, hl1, hC1, wl1, hN1⟩ := open_smalls (hval 1 44 v1 rfl rfl) h1
  obtain ⟨x2, rfl, rfl, rfl, wx2⟩ := open_int Tryd.underlying45 (hval 2 45 v2 rfl rfl) h2
  obtain ⟨rfl, rfl⟩ : gs = [] ∧ q = [] := by
    cases gs with
    | nil => exact ⟨rfl, hV⟩
    | cons g r => exact absurd hV (by intro h; cases h)
  have e1 : Rows.sturmTurnedSpec.fn H ([d0, d1, .lit (.int .i16 x2)] ++ []) = { results := [.lit (.bool true)], args := [d0, d1, .lit (.int .i16 x2)] } := by simp [Rows.sturmTurnedSpec]
  refine (sturmTurned_c (W := W) A0 c0 l0 A1 c1 l1 x2 hl0 hC0 wl0 hl1 hC1 wl1 (i16_of wx2).1 (i16_of wx2).2 (tab_of_laid hL)).mono fun e W' ⟨he, hb⟩ => ?_
  subst he
  refine ⟨_, rfl, _, _, _, [], p0 ++ (p1 ++ ([])), [], hW', ?_, ?_, ?_, hb.frame _, fun h => by cases h⟩
  · rw [e1]; exact trodAll_mk1 (shut_bool Tryd.underlying4 true)
  · rw [e1]; exact trodAll_mk3 (Below.trod jk_laidOut rt_rec rt_row k0 hb lt0) (Below.trod jk_laidOut rt_rec rt_row k1 hb lt1) (shut_int Tryd.underlying45 wx2)
  · rw [e1]; rfl

theorem sturmTurned_holds : Rows.SturmTurnedSaid :=
  OpenClaim.holds_of_wide 8 Tryd.f8 rfl rfl rfl rfl rfl rfl rfl ⟨rfl, rfl, rfl, rfl, rfl⟩ rfl rfl rfl rfl rfl (by kernel_rfl) Tryd.func8 (by kernel_rfl)
    (of_decide_eq_true (by kernel_rfl)) (by unfold Func.isWrapper; rw [if_neg (of_decide_eq_false (by kernel_rfl))]; exact ⟨rfl, rfl⟩)
    (fun os started H enc _ => sturmTurned_lifted os started H enc)

theorem sturmTurned_card_holds : Rows.SturmTurnedCardSaid :=
  Claim7.holds_tied_plain_at .later [] [.data] true Rows.sturmTurnedCard.stood.harness false
    sturmTurned_holds (fun _ h => by cases h) (by kernel_rfl) (fun _ h => by cases h) sturmTurned_row_tie rfl ⟨rfl, rfl⟩ (by kernel_rfl) rfl
    (fun f fn hf hfn => by
      obtain rfl : f = 8 := Option.some.inj ((show Tryd.prog.funcNamed "girder/girderlaw17.SturmTurned" = some 8 by kernel_rfl).symm.trans hf) |>.symm
      obtain rfl : fn = Tryd.f8 := (Option.some.inj (Tryd.func8.symm.trans hfn)).symm
      exact ⟨by kernel_rfl, no_standIn Tryd.params8 (by kernel_rfl)⟩)
    (by kernel_rfl)
#print axioms sturmTurned_card_holds
end Go.Proofs.YtfjiojdnbdfenaaDoor

