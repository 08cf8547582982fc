import Derived.Test.YtaedkekjekbjmaaDoorEr
import Derived.Test.YtaedkekjekbjmaaDoorEq
import Derived.Test.YtaedkekjekbjmaaDoorEp
import Derived.Test.YtaedkekjekbjmaaDoorEj
import Derived.ProofKit
import Derived.Lib.LaidTab
import Derived.SevenTiedAt
import Derived.JoinedOf
import Derived.ChangeSame
import Derived.ChangeVars
import Derived.Test.YtaedkekjekbjmaaDoorEo
import Derived.Deep.Slices
import Derived.Deep.Fields
import Derived.Carry
import Derived.SizedLaws
/- girderkit: a chain lent, and kept. -/
namespace Go.Proofs.YtaedkekjekbjmaaDoor
open Go Go.RowKit Nv GFl Ieee
open Go.Proofs.YtaedkekjekbjmaaDoorW.PrintWords (own_move own_ne own_lt own_base)
set_option maxRecDepth 100000
set_option linter.unusedSimpArgs false

theorem Lent.below_ {w w' : World} {B g : Nat} {l : List Nat} (h : Lent w B g l) (hb : Below w.heap.size w w') : Lent w' B g l := ow_below h hb
theorem Lent.set {w : World} {B g b : Nat} {l : List Nat} {cs : Array Value} (h : Lent w B g l) (hb : w.heap[b]? = some (.cells cs 24 (0, 0))) (i : Nat) (u : Value) : Lent (w.setCell ⟨b, i, none⟩ u) B g l :=
  own_move h (fun k hk => heap_other' (fun e => own_ne h hb f_ne (by rw [hk, e])) i u)
theorem Lent.base {w : World} {B B' g : Nat} {l : List Nat} (h : Lent w B g l) (hb : B' ≤ B) : Lent w B' g l := ow_base h hb
abbrev nilX : Obj := .cells #[.slice none 0 0, .slice none 0 0] 24
set_option maxHeartbeats 4000000 in
theorem lent_chain_c {W : World} (A B : Option Addr) (cA cB : Nat) (d o : List Nat) (hd : Fl W A d) (ho : Fl W B o) (nA : A = none → cA = 0 ∧ d = []) (nB : B = none → cB = 0 ∧ o = []) (zA : d.length * 8 ≤ 140737488351232) (zB : o.length * 8 ≤ 140737488351232) :
    Calls Tryd.prog 6 #[.agg #[.slice A d.length cA, .slice B o.length cB]] W fun e w' => ∃ g1 g2, e = .returned (.agg #[.slice (some ⟨g1, 0, none⟩) d.length (d.length + 12), .slice (some ⟨g2, 0, none⟩) o.length (o.length + 12)]) ∧ Lent w' W.heap.size g1 d ∧ Lent w' W.heap.size g2 o ∧ Below W.heap.size W w' := by
  have LP : Hid (∀ w, Below W.heap.size W w → Calls Tryd.prog 14 #[.slice A d.length cA] w fun e w' => ∃ g, e = .returned (.slice (some ⟨g, 0, none⟩) d.length (d.length + 12)) ∧ w.heap.size ≤ g ∧ Lent w' w.heap.size g d ∧ Below w.heap.size w w') := Lib.hid (fun w h => lent_reals_c A cA d (hd.below h) nA zA)
  have LL : Hid (∀ w, Below W.heap.size W w → Calls Tryd.prog 14 #[.slice B o.length cB] w fun e w' => ∃ g, e = .returned (.slice (some ⟨g, 0, none⟩) o.length (o.length + 12)) ∧ w.heap.size ≤ g ∧ Lent w' w.heap.size g o ∧ Below w.heap.size w w') := Lib.hid (fun w h => lent_reals_c B cB o (ho.below h) nB zB)
  clear hd ho nA nB zA zB
  have B0 : Hid (Below W.heap.size W ((W.alloc (.cells #[.slice A d.length cA, .slice B o.length cB] 24)).alloc nilX)) := Lib.hid (by repeat' (first | (with_reducible exact Below.refl _ _) | (with_reducible refine bl_alloc ?_ _) | (with_reducible refine bl_drewN ?_ _) | (with_reducible refine bl_drew ?_) | (with_reducible refine bl_set ?_ _ (by simp))))
  obtain ⟨k0, k1⟩ := two_blk' W (.cells #[.slice A d.length cA, .slice B o.length cB] 24) nilX
  go_enter Tryd.func6, Tryd.ntmps6
  go_upto_region 2 with (first
    | (go_at_call 14; (with_reducible refine (LP.out _ B0.out).mono ?_); rintro e w1 ⟨g1, rfl, hg, hL, hb⟩; have q0 := kb_keep hb k0; have q1 := kb_keep hb k1; have H1 := Lib.hid ((hL.base B0.out.size).set q0 0 (.slice (some ⟨g1, 0, none⟩) d.length (d.length + 12))); have r0 := heap_set q0 0 (.slice (some ⟨g1, 0, none⟩) d.length (d.length + 12)); have r1 := (heap_other' (show W.heap.size + 1 ≠ W.heap.size by omega) 0 (.slice (some ⟨g1, 0, none⟩) d.length (d.length + 12))).trans q1; have B1 := Lib.hid (bl_set (bl_then B0.out hb) (p := ⟨W.heap.size, 0, none⟩) (.slice (some ⟨g1, 0, none⟩) d.length (d.length + 12)) (Nat.le_refl _)); have c0 := kb_cell q0 (i := 0) rfl; have f0 := kb_frozen q0 0; clear hg hL hb))
  obtain ⟨w2, hw2⟩ : ∃ w, w1.setCell ⟨W.heap.size, 0, none⟩ (.slice (some ⟨g1, 0, none⟩) d.length (d.length + 12)) = w := ⟨_, rfl⟩
  rw [hw2] at H1 r0 r1 B1
  try simp only [hw2]
  clear hw2 c0 f0 q0 q1
  have c1 := kb_cell r0 (i := 1) rfl
  go_upto_region 3 with (first
    | (go_at_call 14; (with_reducible refine (LL.out _ B1.out).mono ?_); rintro e w3 ⟨g2, rfl, hg, hL, hb⟩; have q0 := kb_keep hb r0; have q1 := kb_keep hb r1; have H2 := Lib.hid ((hL.base B1.out.size).set q0 1 (.slice (some ⟨g2, 0, none⟩) o.length (o.length + 12))); have H1 := Lib.hid ((H1.out.below_ hb).set q0 1 (.slice (some ⟨g2, 0, none⟩) o.length (o.length + 12))); have r2 := heap_set q0 1 (.slice (some ⟨g2, 0, none⟩) o.length (o.length + 12)); have r3 := (heap_other' (show W.heap.size + 1 ≠ W.heap.size by omega) 1 (.slice (some ⟨g2, 0, none⟩) o.length (o.length + 12))).trans q1; have B2 := Lib.hid (bl_set (bl_then B1.out hb) (p := ⟨W.heap.size, 1, none⟩) (.slice (some ⟨g2, 0, none⟩) o.length (o.length + 12)) (Nat.le_refl _)); have c0 := kb_cell q0 (i := 1) rfl; have f0 := kb_frozen q0 1; clear hg hL hb))
  obtain ⟨w4, hw4⟩ : ∃ w, w3.setCell ⟨W.heap.size, 1, none⟩ (.slice (some ⟨g2, 0, none⟩) o.length (o.length + 12)) = w := ⟨_, rfl⟩
  rw [hw4] at H1 H2 r2 r3 B2
  try simp only [hw4]
  clear hw4 c0 c1 f0 q0 q1 r0 r1 k0 k1
  have e0 := kb_cell r2 (i := 0) rfl
  have e1 := kb_cell r2 (i := 1) rfl
  have e2 := kb_cell r3 (i := 0) rfl
  have e3 := kb_cell r3 (i := 1) rfl
  have f2 := kb_frozen r3 0
  have f3 := kb_frozen r3 1
  have z2 := heap_set (heap_set r3 0 (.slice (some ⟨g1, 0, none⟩) d.length (d.length + 12))) 1 (.slice (some ⟨g2, 0, none⟩) o.length (o.length + 12))
  have Z0 := Lib.hid (kb_cell z2 (i := 0) rfl)
  have Z1 := Lib.hid (kb_cell z2 (i := 1) rfl)
  go_wp2
  refine bodyPost_ret (v := .agg #[.slice (some ⟨g1, 0, none⟩) d.length (d.length + 12), .slice (some ⟨g2, 0, none⟩) o.length (o.length + 12)]) (by simp [results, Tryd.results6, go_sem, Z0.out, Z1.out]) rfl ?_
  exact ⟨g1, g2, rfl, (H1.out.set r3 0 _).set (heap_set r3 0 _) 1 _, (H2.out.set r3 0 _).set (heap_set r3 0 _) 1 _, bl_set (bl_set B2.out _ (by simp)) _ (by simp)⟩
set_option maxHeartbeats 4000000 in
theorem kept_chain_c {W : World} (A B : Option Addr) (cA cB g1 g2 : Nat) (d o : List Nat) (hd : Fl W A d) (ho : Fl W B o) (wd : ∀ x ∈ d, W64 x) (wo : ∀ x ∈ o, W64 x) (zA : d.length * 8 ≤ 140737488351232) (zB : o.length * 8 ≤ 140737488351232) {b1 b2 : Nat} (h1 : Lent W b1 g1 d) (h2 : Lent W b2 g2 o) :
    Calls Tryd.prog 12 #[.agg #[.slice (some ⟨g1, 0, none⟩) d.length (d.length + 12), .slice (some ⟨g2, 0, none⟩) o.length (o.length + 12)], .agg #[.slice A d.length cA, .slice B o.length cB]] W fun e w' => e = .returned (.bool true) ∧ Below W.heap.size W w' := by
  have SC : Hid (∀ w, Below W.heap.size W w → Calls Tryd.prog 28 #[.agg #[.slice (some ⟨g1, 0, none⟩) d.length (d.length + 12), .slice (some ⟨g2, 0, none⟩) o.length (o.length + 12)], .agg #[.slice A d.length cA, .slice B o.length cB]] w fun e w' => e = .returned (.bool true) ∧ Below w.heap.size w w') := Lib.hid (fun w h => same_chain_c _ _ A B _ _ cA cB d o w (h1.below_ h).fl (hd.below h) (h2.below_ h).fl (ho.below h) wd wo)
  have K1 : Hid (∀ w, Below W.heap.size W w → Calls Tryd.prog 17 #[.slice (some ⟨g1, 0, none⟩) d.length (d.length + 12), .slice A d.length cA] w fun e w' => e = .returned (.bool true) ∧ ∃ m, w' = w.drewN m) := Lib.hid (fun w h => kept_reals_c g1 A _ cA d w (h1.below_ h).ow (hd.below h) rfl wd zA)
  have K2 : Hid (∀ w, Below W.heap.size W w → Calls Tryd.prog 17 #[.slice (some ⟨g2, 0, none⟩) o.length (o.length + 12), .slice B o.length cB] w fun e w' => e = .returned (.bool true) ∧ ∃ m, w' = w.drewN m) := Lib.hid (fun w h => kept_reals_c g2 B _ cB o w (h2.below_ h).ow (ho.below h) rfl wo zB)
  clear hd ho wd wo zA zB h1 h2
  have B0 : Hid (Below W.heap.size W ((W.alloc (.cells #[.slice (some ⟨g1, 0, none⟩) d.length (d.length + 12), .slice (some ⟨g2, 0, none⟩) o.length (o.length + 12)] 24)).alloc (.cells #[.slice A d.length cA, .slice B o.length cB] 24))) := Lib.hid (by repeat' (first | (with_reducible exact Below.refl _ _) | (with_reducible refine bl_alloc ?_ _) | (with_reducible refine bl_drewN ?_ _) | (with_reducible refine bl_drew ?_) | (with_reducible refine bl_set ?_ _ (by simp))))
  obtain ⟨k0, k1⟩ := two_blk' W (.cells #[.slice (some ⟨g1, 0, none⟩) d.length (d.length + 12), .slice (some ⟨g2, 0, none⟩) o.length (o.length + 12)] 24) (.cells #[.slice A d.length cA, .slice B o.length cB] 24)
  go_enter Tryd.func12, Tryd.ntmps12
  go_wp2_with (first
    | (go_at_call 28; (with_reducible refine (SC.out _ B0.out).mono ?_); rintro e w7 ⟨rfl, hb⟩; have B0 := Lib.hid (bl_then B0.out hb); have q0 := kb_keep hb k0; have q1 := kb_keep hb k1; have c0 := kb_cell q0 (i := 0) rfl; have c1 := kb_cell q0 (i := 1) rfl; have c2 := kb_cell q1 (i := 0) rfl; have c3 := kb_cell q1 (i := 1) rfl; clear hb)
    | (go_at_call 17; (with_reducible (first | refine (K1.out _ B0.out).mono ?_ | refine (K2.out _ B0.out).mono ?_)); rintro e w7 ⟨rfl, m, rfl⟩; have B0 := Lib.hid (bl_drewN B0.out m)))
  go_ret
  exact ⟨rfl, by first | exact B0.out | exact bl_drewN B0.out _ | (rw [← World.drewN_drewN]; exact B0.out)⟩
end Go.Proofs.YtaedkekjekbjmaaDoor

/- girderref17.at, middle; girderkit.SameFloat of a float with itself; a chain lent beside the one handed in. -/
namespace Go.Proofs.YtaedkekjekbjmaaDoor
open Go Go.RowKit Nv GFl Ieee
set_option maxRecDepth 100000
set_option linter.unusedSimpArgs false

theorem NS.up {w : World} {v : Value} {k : Nat} {E z : Int} (h : NS w v k E z) {k' : Nat} {E' : Int} (hk : k ≤ k') (hE : E ≤ E') : NS w v k' E' (z * 2 ^ (k' - k)) := by
  obtain ⟨g, m, x, h1, h2, h3, h4, h5⟩ := h
  refine ⟨g, m, x, h1, h2, by omega, by omega, ?_⟩
  rw [← h5, show (x + (k' : Int)).toNat = (x + (k : Int)).toNat + (k' - k) by omega, Int.pow_add, Int.mul_assoc]
theorem atS_c (p : Int) (h1 : -6867989431740006400 ≤ p) (h2 : p ≤ 6867989431740006400) (w : World) : Calls Tryd.prog 39 #[.int .i64 p] w fun e w' => e = .returned (.float .f64 (atW p)) ∧ w' = w := by
  have ea : atF p = atW p := by unfold atF; rw [if_pos (by rw [atOk_eq]; simp; omega)]
  have ac := atR_c p (by omega) (by omega)
  rw [ea] at ac
  have AC := Lib.hid ac
  clear ac ea h1 h2
  go_enter Tryd.func39, Tryd.ntmps39
  go_wp2_with (go_at_call 54; (with_reducible refine (AC.out _).mono ?_); rintro e w' ⟨rfl, hw⟩; obtain rfl := hw.symm; clear hw)
  go_ret
  exact ⟨rfl, rfl⟩
theorem mid_c (a b : Int) (h1 : -6867989431740006400 ≤ a) (h2 : b ≤ 6867989431740006400) (h3 : a < b) (h4 : b - a ≤ 9000000000000000000) (w : World) : Calls Tryd.prog 38 #[.int .i64 a, .int .i64 b] w fun e w' => e = .returned (.int .i64 (a + (b - a) / 2)) ∧ w' = w := by
  obtain ⟨H, hH⟩ : ∃ H : Int, (b - a) / 2 = H := ⟨_, rfl⟩
  have w1 : wrap64 (b - a) = b - a := by unfold wrap64; omega
  have w2 : (b - a).tdiv 2 = H := by rw [Int.tdiv_eq_ediv_of_nonneg (by omega)]; exact hH
  have w3 : wrap64 H = H := by unfold wrap64; omega
  have w4 : wrap64 (a + H) = a + H := by unfold wrap64; omega
  rw [hH]
  have W4 := Lib.hid w4
  clear hH h1 h2 h3 h4
  go_enter Tryd.func38, Tryd.ntmps38
  go_wp2
  go_ret
  exact ⟨ret_int W4.out, rfl⟩
theorem lent_below {w w' : World} {B g : Nat} {l : List Nat} (h : Lent w B g l) (hb : Below w.heap.size w w') : Lent w' B g l := ow_below h hb
section
attribute [local go_sem] run_f64bits
theorem same_floatq_c (x : Nat) (w : World) : Calls Tryd.prog 18 #[.float .f64 x, .float .f64 x] w fun e w' => e = .returned (.bool true) ∧ w = w' := by
  go_enter Tryd.func18, Tryd.ntmps18
  go_wp2
  go_ret
  exact ⟨rfl, rfl⟩
end
/-- The chain lent, and the one handed in, in blocks of their own. -/
structure CL (W w : World) (u v u' v' : Value) (bq g1 g2 : Nat) (d o : List Nat) : Prop where
  b : Below W.heap.size W w
  r : w.heap[W.heap.size]? = some (.cells #[u, v] 24 (0, 0))
  q : w.heap[bq]? = some (.cells #[u', v'] 24 (0, 0))
  l1 : ∃ B, Lent w B g1 d
  l2 : ∃ B, Lent w B g2 o
theorem CL.then {W w w' : World} {u v u' v' : Value} {b g1 g2 : Nat} {d o : List Nat} (h : CL W w u v u' v' b g1 g2 d o) (hb : Below w.heap.size w w') : CL W w' u v u' v' b g1 g2 d o :=
  ⟨bl_then h.b hb, kb_keep hb h.r, kb_keep hb h.q, h.l1.imp fun _ h => h.below_ hb, h.l2.imp fun _ h => h.below_ hb⟩
theorem CL.drewN {W w : World} {u v u' v' : Value} {b g1 g2 : Nat} {d o : List Nat} (h : CL W w u v u' v' b g1 g2 d o) (n : Nat) : CL W (w.drewN n) u v u' v' b g1 g2 d o := h.then (bl_drewN (Below.refl _ _) n)
theorem CL.drew {W w : World} {u v u' v' : Value} {b g1 g2 : Nat} {d o : List Nat} (h : CL W w u v u' v' b g1 g2 d o) : CL W w.drew u v u' v' b g1 g2 d o := h.then (bl_drew (Below.refl _ _))
theorem CL.fl1 {W w : World} {u v u' v' : Value} {b g1 g2 : Nat} {d o : List Nat} (h : CL W w u v u' v' b g1 g2 d o) : Fl w (some ⟨g1, 0, none⟩) d := by obtain ⟨B, h⟩ := h.l1; exact h.fl
theorem CL.fl2 {W w : World} {u v u' v' : Value} {b g1 g2 : Nat} {d o : List Nat} (h : CL W w u v u' v' b g1 g2 d o) : Fl w (some ⟨g2, 0, none⟩) o := by obtain ⟨B, h⟩ := h.l2; exact h.fl
end Go.Proofs.YtaedkekjekbjmaaDoor

/- girderref17.Count: as sturm's. -/
namespace Go.Proofs.YtaedkekjekbjmaaDoor
open Go Go.RowKit Nv GFl Ieee
set_option maxRecDepth 100000
set_option linter.unusedSimpArgs false
attribute [local go_sem] run_f64bits run_f64frombits run_neg_f64
theorem t1074_c (w : World) : Calls Tryd.prog 25 #[.int .i64 (-1074)] w fun e w' => e = .returned (.float .f64 1) ∧ w' = w := by
  have := pow2_c (-1074) (by decide) (by decide) w
  rwa [show tw ((1074 : Int) + (-1074)).toNat = 1 by decide +kernel] at this
set_option maxHeartbeats 8000000 in
theorem countR_c (A B : Option Addr) (cA cB : Nat) (d o : List Nat) (x : Nat) (W : World) (hd : Fl W A d) (ho : Fl W B o) (wd : ∀ x ∈ d, W64 x) (wo : ∀ x ∈ o, W64 x) (hx : W64 x) :
    Calls Tryd.prog 10 #[.agg #[.slice A d.length cA, .slice B o.length cB], .float .f64 x] W fun e w' => e = .returned (.tuple #[.int .i64 (countN d o x), .int .i64 (wrongE d o x)]) ∧ Below W.heap.size W w' := by
  have wc : ∀ w, Below W.heap.size W w → Calls Tryd.prog 24 #[.agg #[.slice A d.length cA, .slice B o.length cB], .float .f64 x] w fun e w' => e = .returned (.int .i64 (wrongE d o x)) ∧ Below w.heap.size w w' := fun w h => wrongR_c A B cA cB d o x w (hd.below h) (ho.below h) wd wo hx
  have BA := Lib.hid ((Below.refl W.heap.size W).alloc (Nat.le_refl _) (.cells #[.slice A d.length cA, .slice B o.length cB] 24))
  by_cases hw : wrongE d o x = 0
  · have hr : rightB d o = true := by unfold wrongE at hw; by_cases h : rightB d o = true; exact h; rw [if_neg h] at hw; cases hw
    have hx1 : rg x ≤ 6867989431740006400 := by
      unfold wrongE at hw
      rw [if_pos hr] at hw
      apply Classical.byContradiction
      intro h1
      rw [if_pos (show 6867989431740006400 < rg x by omega)] at hw
      split at hw <;> cases hw
    obtain ⟨r1, r2, r3, r4, r5⟩ := rightB_d hr
    have CD : Hid (∀ y ∈ d, Cf y) := Lib.hid (fun y hy => ⟨wd y hy, r4 y hy⟩)
    have CO : Hid (∀ y ∈ o, Cf y) := Lib.hid (fun y hy => ⟨wo y hy, r5 y hy⟩)
    have HD := Lib.hid hd
    have HO := Lib.hid ho
    have HX := Lib.hid hx
    have HX1 := Lib.hid hx1
    have HL : Hid (d.length = o.length + 1) := Lib.hid (by omega)
    have EC : Hid (countN d o x = cntF x d o) := Lib.hid (if_pos hw)
    have EW := Lib.hid hw
    rw [hw] at wc
    have WC := Lib.hid wc
    have hn := r2
    clear wc hw hr hx1 r1 r2 r3 r4 r5 hd ho wd wo hx
    go_enter Tryd.func10, Tryd.ntmps10
    go_wp2_with (first
      | (go_at_call 24; (with_reducible refine (WC.out _ BA.out).mono ?_); rintro e w1 ⟨rfl, hb⟩
         have hblk : w1.heap[W.heap.size]? = _ := kb_new hb
         have HBK := Lib.hid hblk
         have cc0 := kb_cell hblk (i := 0) rfl
         have cc1 := kb_cell hblk (i := 1) rfl
         have HB := Lib.hid (BA.out.trans (hb.mono (by simp))); clear hb hblk)
      | (go_at_call 25; (with_reducible refine (t1074_c _).mono ?_); rintro e w' ⟨rfl, hw⟩; obtain rfl := hw.symm; clear hw))
    have fn1 : fneg 1 = 9223372036854775809 := by decide
    go_loopw [8, 9, 10] (fun v7 v8 v22 wr => ∃ (k dv : Nat) (c : Int), v7 = .int .i64 c ∧ v8 = .float .f64 dv ∧ v22 = .int .i64 k ∧ k ≤ d.length ∧ Hid (CI W wr d o x k dv c ∧ Below w1.heap.size w1 wr)) (fun _ _ v _ => d.length - (intOf v).toNat)
    case atStart => exact ⟨0, 0, 0, rfl, rfl, rfl, Nat.zero_le _, Lib.hid ⟨⟨HB.out, fun h => absurd h (by decide), by decide, by decide, by simp [cntF]⟩, Below.refl _ _⟩⟩
    case round =>
      obtain ⟨k, dv, c, rfl, rfl, rfl, hk, hq⟩ := hrel
      clear cc0 cc1
      have hb2 : wr.heap[W.heap.size]? = _ := kb_keep hq.out.2 HBK.out
      have cc0 := kb_cell hb2 (i := 0) rfl
      have cc1 := kb_cell hb2 (i := 1) rfl
      have HBK2 := Lib.hid hb2
      clear hb2
      by_cases hlt : k < d.length
      · have l1 : decide (k < d.length) = true := decide_eq_true hlt
        have cx := CD.out _ (List.getElem_mem hlt)
        obtain ⟨ad, hA, hc⟩ := HD.out.at hlt
        subst hA
        have hcell : wr.cell? (ad.add k) = some (.float .f64 d[k]) := (hq.out.1.below.cell (World.block_lt_of_cell? W _ hc)).trans hc
        obtain ⟨y, hy0, hy1, hrow⟩ := cR_drop k d none o hlt HL.out
        obtain ⟨p1, p2, p3⟩ := piv_ok cx HX.out HX1.out
        obtain ⟨Z, hZ⟩ : ∃ Z, fsub d[k] x = Z := ⟨_, rfl⟩
        have s0 : ∀ t w, (binOp .sub t (.float .f64 d[k]) (.float .f64 x)).run Tryd.prog w = .ok (.float .f64 Z) w := fun t w => run_float_arith w .sub t .f64 _ _ Z (by rw [← hZ]; exact p1)
        have CX := Lib.hid cx
        have HROW := Lib.hid hrow
        have HY0 := Lib.hid hy0
        have HY1 := Lib.hid hy1
        have HZ1 := Lib.hid hZ
        clear cx hrow hy0 hy1 hc hZ p1
        rcases Nat.eq_zero_or_pos k with h0 | h0
        · have l3 : decide (0 < k) = false := decide_eq_false (by omega)
          obtain ⟨P, hP⟩ : ∃ P, P = Z := ⟨_, rfl⟩
          have PN : Hid (Nn P) := Lib.hid (by rw [hP, ← HZ1.out]; exact p2)
          have PV : Hid (piv x d[k] y dv = P) := Lib.hid (by rw [HY0.out h0, hP, ← HZ1.out]; rfl)
          subst hP
          clear p2 p3 HZ1 h0
          have c0 := hq.out.1.c0
          have c1 : c ≤ 64 := by have := hq.out.1.c1; omega
          have NX : Hid (∀ c', c' = c + (if neg (fix P) then 1 else 0) → CI W wr d o x (k + 1) (fix P) c') := Lib.hid (fun c' hc' => ⟨hq.out.1.below, fun _ => fix_nn PN.out, by rw [hc']; have := hq.out.1.c0; split <;> omega, by rw [hc']; have := hq.out.1.c1; split <;> omega, by
            have h1 := hq.out.1.tot
            rw [HROW.out, cF_cons, PV.out] at h1
            rw [hc']; omega⟩)
          have TB := Lib.hid hq.out.2
          obtain ⟨t1, t2⟩ := fix_t PN.out
          clear hq
          by_cases hz : rg P = 0
          · have ef : fix P = 9223372036854775809 := if_pos hz
            rw [decide_eq_true hz] at t1
            have t3 : (FloatKind.f64.format.order 9223372036854775809 0 == some .lt) = true := by decide
            have HZ := Lib.hid hz
            have EF := Lib.hid ef
            have NX2 := Lib.hid (NX.out (c + 1) (by rw [EF.out, if_pos (show neg 9223372036854775809 = true by decide)]))
            clear hz ef t2 NX
            go_wp2
            go_roundw
            case rel => exact ⟨k + 1, fix P, c + 1, rfl, by rw [EF.out], by go_num, by omega, Lib.hid ⟨NX2.out, TB.out⟩⟩
            case measure => simp [intOf]; omega
          · have ef : fix P = P := if_neg hz
            rw [decide_eq_false hz] at t1
            rw [ef] at t2
            have EF := Lib.hid ef
            cases hs : neg P
            all_goals
              rw [hs] at t2
              have NX2 := Lib.hid (NX.out _ rfl)
              rw [EF.out, hs] at NX2
              clear ef hz hs
              go_wp2
              go_roundw
              case rel => exact ⟨k + 1, P, _, rfl, rfl, by go_num, by omega, Lib.hid ⟨by simpa using NX2.out, TB.out⟩⟩
              case measure => simp [intOf]; omega
        · obtain ⟨j, rfl⟩ : ∃ j, k = j + 1 := ⟨k - 1, by omega⟩
          have l3 : decide (0 < j + 1) = true := decide_eq_true (by omega)
          have l1' : decide ((j : Int) + 1 < (d.length : Int)) = true := decide_eq_true (by omega)
          have hcell' : wr.cell? ⟨ad.block, ad.off + (j + 1), none⟩ = some (.float .f64 d[j + 1]) := by have := hcell; simpa [Addr.add] using this
          obtain ⟨hjo, hy⟩ := HY1.out (by omega)
          have hjo : j < o.length := hjo
          have hyo : y = some o[j] := hy
          have co1 := CO.out _ (List.getElem_mem hjo)
          obtain ⟨bd, hB, hc⟩ := HO.out.at hjo
          subst hB
          have hcell2 : wr.cell? (bd.add j) = some (.float .f64 o[j]) := (hq.out.1.below.cell (World.block_lt_of_cell? W _ hc)).trans hc
          have dn := hq.out.1.nn (by omega)
          obtain ⟨a1, a2, a3, a4⟩ := sq_ok co1
          obtain ⟨b1, b2⟩ := q_ok co1 dn.1 dn.2
          obtain ⟨e1, e2⟩ := piv2_ok CX.out HX.out HX1.out co1 dn.1 dn.2
          obtain ⟨Q, hQ⟩ : ∃ Q, fmul o[j] o[j] = Q := ⟨_, rfl⟩
          obtain ⟨R, hR⟩ : ∃ R, fdiv Q dv = R := ⟨_, rfl⟩
          obtain ⟨P, hP⟩ : ∃ P, fsub Z R = P := ⟨_, rfl⟩
          have pv : piv x d[j + 1] y dv = P := by
            rw [hyo]
            show fsub (fsub d[j + 1] x) (fdiv (fmul o[j] o[j]) dv) = P
            rw [HZ1.out, hQ, hR, hP]
          rw [HZ1.out, hQ, hR, hP] at e1 e2
          rw [hQ] at a1 b1
          rw [hR] at b1
          have s1 : ∀ t w, (binOp .mul t (.float .f64 o[j]) (.float .f64 o[j])).run Tryd.prog w = .ok (.float .f64 Q) w := fun t w => run_float_arith w .mul t .f64 _ _ Q a1
          have s2 : ∀ t w, (binOp .quo t (.float .f64 Q) (.float .f64 dv)).run Tryd.prog w = .ok (.float .f64 R) w := fun t w => run_float_arith w .quo t .f64 _ _ R b1
          have s3 : ∀ t w, (binOp .sub t (.float .f64 Z) (.float .f64 R)).run Tryd.prog w = .ok (.float .f64 P) w := fun t w => run_float_arith w .sub t .f64 _ _ P e1
          have PN := Lib.hid e2
          have PV := Lib.hid pv
          have i0 : (0 : Int) ≤ (j : Int) := by omega
          have i1 : (j : Int) < (o.length : Int) := by omega
          have i2 : IntKind.i64.wrap ((j : Int) + 1 - 1) = (j : Int) := by rw [IntKind.wrap_i64]; omega
          have i3 : IntKind.i64.wrap ((j : Int)) = (j : Int) := by rw [IntKind.wrap_i64]; omega
          clear hy hyo co1 hc dn a1 a2 a3 a4 b1 b2 e1 e2 hQ hR hP pv p2 p3 HZ1 HY0 HY1 h0
          have c0 := hq.out.1.c0
          have c1 : c ≤ 64 := by have := hq.out.1.c1; omega
          have NX : Hid (∀ c', c' = c + (if neg (fix P) then 1 else 0) → CI W wr d o x (j + 1 + 1) (fix P) c') := Lib.hid (fun c' hc' => ⟨hq.out.1.below, fun _ => fix_nn PN.out, by rw [hc']; have := hq.out.1.c0; split <;> omega, by rw [hc']; have := hq.out.1.c1; split <;> omega, by
            have h1 := hq.out.1.tot
            rw [HROW.out, cF_cons, PV.out] at h1
            rw [hc']; omega⟩)
          have TB := Lib.hid hq.out.2
          obtain ⟨t1, t2⟩ := fix_t PN.out
          clear hq
          by_cases hz : rg P = 0
          · have ef : fix P = 9223372036854775809 := if_pos hz
            rw [decide_eq_true hz] at t1
            have t3 : (FloatKind.f64.format.order 9223372036854775809 0 == some .lt) = true := by decide
            have HZ := Lib.hid hz
            have EF := Lib.hid ef
            have NX2 := Lib.hid (NX.out (c + 1) (by rw [EF.out, if_pos (show neg 9223372036854775809 = true by decide)]))
            clear hz ef t2 NX
            go_wp2
            go_region_held3 (fun w' => w'.cell? ⟨W.heap.size, 0, none⟩ = some (.slice (some ad) d.length cA) ∧ w'.cell? ⟨W.heap.size, 1, none⟩ = some (.slice (some bd) o.length cB) ∧ w'.cell? (bd.add j) = some (.float .f64 o[j])) (go_keep) (fail)
            go_wp2
            go_roundw
            case rel => exact ⟨j + 1 + 1, fix P, c + 1, rfl, by rw [EF.out], by go_num, by omega, Lib.hid ⟨NX2.out.drew, bl_drew TB.out⟩⟩
            case measure => simp [intOf]; omega
          · have ef : fix P = P := if_neg hz
            rw [decide_eq_false hz] at t1
            rw [ef] at t2
            have EF := Lib.hid ef
            cases hs : neg P
            all_goals
              rw [hs] at t2
              have NX2 := Lib.hid (NX.out _ rfl)
              rw [EF.out, hs] at NX2
              clear ef hz hs
              go_wp2
              go_region_held3 (fun w' => w'.cell? ⟨W.heap.size, 0, none⟩ = some (.slice (some ad) d.length cA) ∧ w'.cell? ⟨W.heap.size, 1, none⟩ = some (.slice (some bd) o.length cB) ∧ w'.cell? (bd.add j) = some (.float .f64 o[j])) (go_keep) (fail)
              go_wp2
              go_roundw
              case rel => exact ⟨j + 1 + 1, P, _, rfl, rfl, by go_num, by omega, Lib.hid ⟨by simpa using NX2.out.drew, bl_drew TB.out⟩⟩
              case measure => simp [intOf]; omega
      · have l1 : decide (k < d.length) = false := decide_eq_false hlt
        have fin : c = cntF x d o := by
          have h1 := hq.out.1.tot
          rw [List.drop_eq_nil_iff.2 (by rw [cR_len]; omega)] at h1
          rw [← h1]; simp [cF]
        have FIN := Lib.hid fin
        have BL := Lib.hid hq.out.1.below
        clear fin hq
        go_wp2
        go_ret2
        exact ⟨ret_int_int (by rw [EC.out, FIN.out]) EW.out.symm, BL.out⟩
  · have e0 : countN d o x = 0 := if_neg hw
    have k0 : (wrongE d o x != 0) = true := by simpa using hw
    obtain ⟨E, hE⟩ : ∃ E, wrongE d o x = E := ⟨_, rfl⟩
    rw [hE] at wc k0
    rw [hE]
    have WC := Lib.hid wc
    have E0 := Lib.hid e0
    clear wc hw hd ho wd wo hx e0 hE
    go_enter Tryd.func10, Tryd.ntmps10
    go_wp2_with (first
      | (go_at_call 24; (with_reducible refine (WC.out _ BA.out).mono ?_); rintro e w1 ⟨rfl, hb⟩; have HB := Lib.hid (BA.out.trans (hb.mono (by simp))); clear hb))
    go_ret2
    exact ⟨ret_int_int E0.out.symm rfl, HB.out⟩
end Go.Proofs.YtaedkekjekbjmaaDoor

/- girderref17.Exact; girderlaw17.SturmCounts. -/
namespace Go.Proofs.YtaedkekjekbjmaaDoor
open Go Go.RowKit Nv GFl Ieee
open Go.Proofs.YtaedkekjekbjmaaDoorW.PrintWords (own_move own_ne own_lt own_base)
set_option maxRecDepth 100000
set_option linter.unusedSimpArgs false

set_option maxHeartbeats 4000000 in
theorem exactR_c (A B : Option Addr) (cA cB : Nat) (d o : List Nat) (x : Nat) (W : World) (hd : Fl W A d) (ho : Fl W B o) (wd : ∀ x ∈ d, W64 x) (wo : ∀ x ∈ o, W64 x) (hx : W64 x) :
    Calls Tryd.prog 11 #[.agg #[.slice A d.length cA, .slice B o.length cB], .float .f64 x] W fun e w' => e = .returned (.tuple #[.int .i64 (exactN d o x), .int .i64 (wrongE d o x)]) ∧ Below W.heap.size W w' := by
  have wc : ∀ w, Below W.heap.size W w → Calls Tryd.prog 24 #[.agg #[.slice A d.length cA, .slice B o.length cB], .float .f64 x] w fun e w' => e = .returned (.int .i64 (wrongE d o x)) ∧ Below w.heap.size w w' := fun w h => wrongR_c A B cA cB d o x w (hd.below h) (ho.below h) wd wo hx
  have BA := Lib.hid ((Below.refl W.heap.size W).alloc (Nat.le_refl _) (.cells #[.slice A d.length cA, .slice B o.length cB] 24))
  by_cases hw : wrongE d o x = 0
  · have hg : rightB d o = true ∧ rg x ≤ 6867989431740006400 := by
      have h := hw
      unfold wrongE at h
      by_cases hr : rightB d o = true
      · rw [if_pos hr] at h
        refine ⟨hr, ?_⟩
        rcases Nat.lt_or_ge 6867989431740006400 (rg x) with h1 | h1
        · rw [if_pos h1] at h; split at h <;> cases h
        · exact h1
      · rw [if_neg hr] at h; cases h
    obtain ⟨hr, hx1⟩ := hg
    obtain ⟨r1, r2, r3, r4, r5⟩ := rightB_d hr
    have bc : ∀ w v, Below W.heap.size W w → NS w v 1074 1023 (val x) → Calls Tryd.prog 26 #[.agg #[.slice A d.length cA, .slice B o.length cB], v] w fun e w' => e = .returned (.int .i64 (exactN d o x)) ∧ Below w.heap.size w w' := fun w v hb hv => by
      unfold exactN
      rw [if_pos hw]
      exact belowR_c A B cA cB d o v (val x) w (hd.below hb) (ho.below hb) (fun y hy => ⟨wd y hy, r4 y hy⟩) (fun y hy => ⟨wo y hy, r5 y hy⟩) (by omega) r2 hv (bd_x hx1)
    have FL : Hid (∀ w, Calls Tryd.prog 27 #[.float .f64 x] w (ZPost 1074 1023 (val x) w)) := Lib.hid (fun w => float_s x hx (Nat.lt_of_le_of_lt hx1 (by decide)))
    have BC := Lib.hid bc
    rw [hw] at wc
    have WC := Lib.hid wc
    have HW := Lib.hid hw
    clear wc bc hw hd ho wd wo hx hr hx1 r1 r2 r3 r4 r5
    go_enter Tryd.func11, Tryd.ntmps11
    go_upto_region 4 with (first
      | (go_at_call 24; (with_reducible refine (WC.out _ BA.out).mono ?_); rintro e w1 ⟨rfl, hb⟩
         have hblk : w1.heap[W.heap.size]? = _ := kb_new hb
         have HK1 := Lib.hid hblk
         have HB := Lib.hid (BA.out.trans (hb.mono (by simp))); clear hb hblk))
    have hS : w1.drew.cell? ⟨W.heap.size, 0, none⟩ = some (.slice A d.length cA) ∧ w1.drew.cell? ⟨W.heap.size, 1, none⟩ = some (.slice B o.length cB) := ⟨kb_cell (kb_keep (dr_below _) HK1.out) (i := 0) rfl, kb_cell (kb_keep (dr_below _) HK1.out) (i := 1) rfl⟩
    refine wp_region_G (g := 3) (S := fun w' => w'.cell? ⟨W.heap.size, 0, none⟩ = some (.slice A d.length cA) ∧ w'.cell? ⟨W.heap.size, 1, none⟩ = some (.slice B o.length cB)) (by kernel_rfl) ?_
    have BD := Lib.hid (bl_drew HB.out)
    (refine wpG_ld (i := 0) 3 (v := ?_) rfl rfl (by kernel_rfl) (by kernel_rfl) (by kernel_rfl) (by kernel_rfl) (fun _ _ _ h => h) (Or.inl ⟨by rfl, ?_⟩) hS ?_; rotate_left; focus (intro w hSw; (try dsimp only at hSw); go_simp; first | done | with_reducible rfl | exact rfl)); (try simp only [Act.put, List.setIfInBounds_toArray, List.set_cons_zero, List.set_cons_succ, List.getElem_toArray, List.getElem_cons_zero, List.getElem_cons_succ])
    (refine wpG_take (i := 1) (v := ?_) rfl rfl (by kernel_rfl) (by kernel_rfl) (by kernel_rfl) (fun _ _ _ h => h) (Or.inl ⟨by rfl, fun w => ?_⟩) (Or.inr hS) ?_; rotate_left; focus (go_simp; first | done | with_reducible rfl | exact rfl)); (try simp only [Act.put, List.setIfInBounds_toArray, List.set_cons_zero, List.set_cons_succ, List.getElem_toArray, List.getElem_cons_zero, List.getElem_cons_succ])
    refine wpG_one (i := 2) (by kernel_rfl) rfl (fun K hK => ?_); have HK := Lib.hid hK; clear hK
    go_simp
    (with_reducible refine (FL.out _).mono ?_)
    rintro e w2 ⟨v, rfl, hv, hb⟩
    have HV := Lib.hid hv
    have B2 := Lib.hid (bl_then BD.out hb)
    have hS2 := And.intro (kb_cB hb hS.1) (kb_cB hb hS.2)
    refine HK.out _ _ (Or.inr hS2) ?_
    clear HK K hv hb hS
    (try simp only [Act.put, List.setIfInBounds_toArray, List.set_cons_zero, List.set_cons_succ, List.getElem_toArray, List.getElem_cons_zero, List.getElem_cons_succ])
    have hS := hS2
    refine wpG_one (i := 3) (by kernel_rfl) rfl (fun K hK => ?_); have HK := Lib.hid hK; clear hK
    go_simp
    (with_reducible refine (BC.out _ _ B2.out HV.out).mono ?_)
    rintro e w3 ⟨rfl, hb⟩
    have B3 := Lib.hid (bl_then B2.out hb)
    refine HK.out _ _ (Or.inl (by kernel_rfl)) ?_
    clear HK K hb hS hS2
    (try simp only [Act.put, List.setIfInBounds_toArray, List.set_cons_zero, List.set_cons_succ, List.getElem_toArray, List.getElem_cons_zero, List.getElem_cons_succ])
    (refine wpG_take (i := 4) (v := ?_) rfl rfl (by kernel_rfl) (by kernel_rfl) (by kernel_rfl) (fun _ _ _ h => h) (Or.inl ⟨by rfl, fun w => ?_⟩) (Or.inl (by kernel_rfl)) ?_; rotate_left; focus (go_simp; first | done | with_reducible rfl | exact rfl)); (try simp only [Act.put, List.setIfInBounds_toArray, List.set_cons_zero, List.set_cons_succ, List.getElem_toArray, List.getElem_cons_zero, List.getElem_cons_succ]); (refine wpG_take (i := 5) (v := ?_) rfl rfl (by kernel_rfl) (by kernel_rfl) (by kernel_rfl) (fun _ _ _ h => h) (Or.inl ⟨by rfl, fun w => ?_⟩) (Or.inl (by kernel_rfl)) ?_; rotate_left; focus (go_simp; first | done | with_reducible rfl | exact rfl)); (try simp only [Act.put, List.setIfInBounds_toArray, List.set_cons_zero, List.set_cons_succ, List.getElem_toArray, List.getElem_cons_zero, List.getElem_cons_succ])
    refine wpG_done (by kernel_rfl) ?_ _
    go_wp2
    go_ret2
    exact ⟨ret_int_int rfl HW.out.symm, B3.out⟩
  · have e0 : exactN d o x = 0 := if_neg hw
    have k0 : (wrongE d o x != 0) = true := by simpa using hw
    obtain ⟨E, hE⟩ : ∃ E, wrongE d o x = E := ⟨_, rfl⟩
    rw [hE] at wc k0
    rw [hE]
    have WC := Lib.hid wc
    have E0 := Lib.hid e0
    clear wc hw hd ho wd wo hx e0 hE
    go_enter Tryd.func11, Tryd.ntmps11
    go_wp2_with (first
      | (go_at_call 24; (with_reducible refine (WC.out _ BA.out).mono ?_); rintro e w1 ⟨rfl, hb⟩; have HB := Lib.hid (BA.out.trans (hb.mono (by simp))); clear hb))
    go_ret2
    exact ⟨ret_int_int E0.out.symm rfl, HB.out⟩
set_option maxHeartbeats 8000000 in
theorem sturmCounts_c {W : World} (A B : Option Addr) (cA cB : Nat) (d o : List Nat) (x : Nat) (_hA : d.length ≤ cA) (_hB : o.length ≤ cB) (hd : Fl W A d) (ho : Fl W B o) (wd : ∀ x ∈ d, W64 x) (wo : ∀ x ∈ o, W64 x) (nA : A = none → cA = 0 ∧ d = []) (nB : B = none → cB = 0 ∧ o = []) (zA : d.length * 8 ≤ 140737488351232) (zB : o.length * 8 ≤ 140737488351232) (hx : W64 x) (hT : Tab W) :
    Calls Tryd.prog 3 #[.agg #[.slice A d.length cA, .slice B o.length cB], .float .f64 x] W fun e w' => e = .returned (.bool true) ∧ Below W.heap.size W w' := by
  have AW : Hid (∀ w, Below W.heap.size W w → Calls Tryd.prog 5 #[] w fun e w' => e = .returned (.bool true) ∧ Below w.heap.size w w') := Lib.hid (fun w h => awake_c w (hT.below h))
  have LC : Hid (∀ w, Below W.heap.size W w → Calls Tryd.prog 6 #[.agg #[.slice A d.length cA, .slice B o.length cB]] w fun e w' => ∃ g1 g2, e = .returned (.agg #[.slice (some ⟨g1, 0, none⟩) d.length (d.length + 12), .slice (some ⟨g2, 0, none⟩) o.length (o.length + 12)]) ∧ Lent w' w.heap.size g1 d ∧ Lent w' w.heap.size g2 o ∧ Below w.heap.size w w') := Lib.hid (fun w h => lent_chain_c A B cA cB d o (hd.below h) (ho.below h) nA nB zA zB)
  obtain ⟨u, hu⟩ : ∃ u, Value.slice A d.length cA = u := ⟨_, rfl⟩
  obtain ⟨v, hv⟩ : ∃ v, Value.slice B o.length cB = v := ⟨_, rfl⟩
  have RC : Hid (∀ w g1 g2 b u' v', CL W w u v u' v' b g1 g2 d o → Calls Tryd.prog 7 #[.agg #[.slice (some ⟨g1, 0, none⟩) d.length (d.length + 12), .slice (some ⟨g2, 0, none⟩) o.length (o.length + 12)]] w fun e w' => e = .returned (.bool (rightB d o)) ∧ Below w.heap.size w w') := Lib.hid (fun w g1 g2 b u' v' h => right_c _ _ _ _ d o w h.fl1 h.fl2 wd wo)
  have CC : Hid (∀ w g1 g2 b u' v', CL W w u v u' v' b g1 g2 d o → Calls Tryd.prog 8 #[.agg #[.slice (some ⟨g1, 0, none⟩) d.length (d.length + 12), .slice (some ⟨g2, 0, none⟩) o.length (o.length + 12)], .float .f64 x] w fun e w' => e = .returned (.tuple #[.int .i64 (countN d o x), .int .i64 (wrongE d o x)]) ∧ Below w.heap.size w w') := Lib.hid (fun w g1 g2 b u' v' h => count_c _ _ _ _ d o x w h.fl1 h.fl2 wd wo hx)
  have EC : Hid (∀ w g1 g2 b u' v', CL W w u v u' v' b g1 g2 d o → Calls Tryd.prog 9 #[.agg #[.slice (some ⟨g1, 0, none⟩) d.length (d.length + 12), .slice (some ⟨g2, 0, none⟩) o.length (o.length + 12)], .float .f64 x] w fun e w' => e = .returned (.tuple #[.int .i64 (exactN d o x), .int .i64 (wrongE d o x)]) ∧ Below w.heap.size w w') := Lib.hid (fun w g1 g2 b u' v' h => exact_c _ _ _ _ d o x w h.fl1 h.fl2 (by omega) (by omega) wd wo hx (hT.below h.b))
  have CR : Hid (∀ w, Below W.heap.size W w → Calls Tryd.prog 10 #[.agg #[u, v], .float .f64 x] w fun e w' => e = .returned (.tuple #[.int .i64 (countN d o x), .int .i64 (wrongE d o x)]) ∧ Below w.heap.size w w') := Lib.hid (fun w h => by rw [← hu, ← hv]; exact countR_c A B cA cB d o x w (hd.below h) (ho.below h) wd wo hx)
  have ER : Hid (∀ w, Below W.heap.size W w → Calls Tryd.prog 11 #[.agg #[u, v], .float .f64 x] w fun e w' => e = .returned (.tuple #[.int .i64 (exactN d o x), .int .i64 (wrongE d o x)]) ∧ Below w.heap.size w w') := Lib.hid (fun w h => by rw [← hu, ← hv]; exact exactR_c A B cA cB d o x w (hd.below h) (ho.below h) wd wo hx)
  have RR : Hid (∀ w, Below W.heap.size W w → Calls Tryd.prog 13 #[.agg #[u, v]] w fun e w' => e = .returned (.bool (rightB d o)) ∧ Below w.heap.size w w') := Lib.hid (fun w h => by rw [← hu, ← hv]; exact rightR_c A B cA cB d o w (hd.below h) (ho.below h) wd wo)
  have KC : Hid (∀ w g1 g2 b u' v', CL W w u v u' v' b g1 g2 d o → Calls Tryd.prog 12 #[.agg #[.slice (some ⟨g1, 0, none⟩) d.length (d.length + 12), .slice (some ⟨g2, 0, none⟩) o.length (o.length + 12)], .agg #[u, v]] w fun e w' => e = .returned (.bool true) ∧ Below w.heap.size w w') := Lib.hid (fun w g1 g2 b u' v' h => by
    rw [← hu, ← hv]
    obtain ⟨B1, h1⟩ := h.l1
    obtain ⟨B2, h2⟩ := h.l2
    exact kept_chain_c A B cA cB g1 g2 d o (hd.below h.b) (ho.below h.b) wd wo zA zB h1 h2)
  rw [hu, hv]
  rw [hu, hv] at LC
  obtain ⟨rB, hr⟩ : ∃ b, rightB d o = b := ⟨_, rfl⟩
  obtain ⟨cN, hc⟩ : ∃ b, countN d o x = b := ⟨_, rfl⟩
  obtain ⟨eN, he⟩ : ∃ b, exactN d o x = b := ⟨_, rfl⟩
  obtain ⟨wE, hw⟩ : ∃ b, wrongE d o x = b := ⟨_, rfl⟩
  rw [hr] at RC RR
  rw [hc, hw] at CC CR
  rw [he, hw] at EC ER
  obtain ⟨nd, hnd⟩ : ∃ n, d.length = n := ⟨_, rfl⟩
  obtain ⟨no, hno⟩ : ∃ n, o.length = n := ⟨_, rfl⟩
  rw [hnd, hno] at RC CC EC KC LC
  clear hd ho wd wo nA nB zA zB hx hT hu hv hr hc he hw _hA _hB hnd hno
  have B0 := Lib.hid (bl_alloc (Below.refl W.heap.size W) (.cells #[u, v] 24))
  have R0 := Lib.hid (kb_new (w := W) (o := .cells #[u, v] 24) (Below.refl _ _))
  go_enter Tryd.func3, Tryd.ntmps3
  go_upto_region 4 with (first
    | (go_at_call 5; (with_reducible refine (AW.out _ B0.out).mono ?_); rintro e w1 ⟨rfl, hb⟩; have B1 := Lib.hid (bl_then B0.out hb); have R1 := Lib.hid (kb_keep hb R0.out); have c0 := kb_cell R1.out (i := 0) rfl; have c1 := kb_cell R1.out (i := 1) rfl; clear hb)
    | (go_at_call 6; (with_reducible refine (LC.out _ B1.out).mono ?_); rintro e w2 ⟨g1, g2, rfl, h1, h2, hb⟩; have H1 := Lib.hid h1; have H2 := Lib.hid h2; have B2 := Lib.hid (bl_then B1.out hb); have R2 := Lib.hid (kb_keep hb R1.out); clear c0 c1 hb h1 h2))
  have C0 : Hid (CL W (w2.alloc (.cells #[.slice (some ⟨g1, 0, none⟩) nd (nd + 12), .slice (some ⟨g2, 0, none⟩) no (no + 12)] 24)) u v (.slice (some ⟨g1, 0, none⟩) nd (nd + 12)) (.slice (some ⟨g2, 0, none⟩) no (no + 12)) w2.heap.size g1 g2 d o) :=
    Lib.hid ⟨bl_alloc B2.out _, kb_alloc R2.out, kb_new (Below.refl _ _), ⟨_, H1.out.below_ (bl_alloc (Below.refl _ _) _)⟩, ⟨_, H2.out.below_ (bl_alloc (Below.refl _ _) _)⟩⟩
  obtain ⟨w3, hw3⟩ : ∃ w, w2.alloc (.cells #[.slice (some ⟨g1, 0, none⟩) nd (nd + 12), .slice (some ⟨g2, 0, none⟩) no (no + 12)] 24) = w := ⟨_, rfl⟩
  obtain ⟨bc, hbc⟩ : ∃ b, w2.heap.size = b := ⟨_, rfl⟩
  rw [hw3, hbc] at C0
  simp only [hw3, hbc]
  clear hw3 hbc H1 H2 B0 B1 B2 R0 R1 R2
  have q0 := kb_cell C0.out.q (i := 0) rfl
  have q1 := kb_cell C0.out.q (i := 1) rfl
  go_upto_region 9 with (first
    | (go_at_call 7; (with_reducible refine (RC.out _ _ _ _ _ _ C0.out).mono ?_); rintro e w4 ⟨rfl, hb⟩; have C0 := Lib.hid (C0.out.then hb); clear q0 q1 hb; have q0 := kb_cell C0.out.q (i := 0) rfl; have q1 := kb_cell C0.out.q (i := 1) rfl)
    | (go_at_call 8; (with_reducible refine (CC.out _ _ _ _ _ _ C0.out).mono ?_); rintro e w5 ⟨rfl, hb⟩; have C0 := Lib.hid (C0.out.then hb); clear q0 q1 hb; have q0 := kb_cell C0.out.q (i := 0) rfl; have q1 := kb_cell C0.out.q (i := 1) rfl)
    | (go_at_call 9; (with_reducible refine (EC.out _ _ _ _ _ _ C0.out).mono ?_); rintro e w6 ⟨rfl, hb⟩; have C0 := Lib.hid (C0.out.then hb); clear q0 q1 hb; have q0 := kb_cell C0.out.r (i := 0) rfl; have q1 := kb_cell C0.out.r (i := 1) rfl)
    | (go_at_call 10; (with_reducible refine (CR.out _ C0.out.b).mono ?_); rintro e w7 ⟨rfl, hb⟩; have C0 := Lib.hid (C0.out.then hb); clear q0 q1 hb; have q0 := kb_cell C0.out.r (i := 0) rfl; have q1 := kb_cell C0.out.r (i := 1) rfl)
    | (go_at_call 11; (with_reducible refine (ER.out _ C0.out.b).mono ?_); rintro e w8 ⟨rfl, hb⟩; have C0 := Lib.hid (C0.out.then hb); clear q0 q1 hb))
  clear CC EC CR ER RC LC AW
  have q0 := kb_cell C0.out.r (i := 0) rfl
  have q1 := kb_cell C0.out.r (i := 1) rfl
  have q2 := kb_cell C0.out.q (i := 0) rfl
  have q3 := kb_cell C0.out.q (i := 1) rfl
  go_wp2_with (first
    | (go_at_call 12; (with_reducible refine (KC.out _ _ _ _ _ _ (by first | exact C0.out | exact C0.out.drew | exact C0.out.drewN _)).mono ?_); rintro e w9 ⟨rfl, hb⟩; have C1 := Lib.hid ((show CL W _ u v _ _ bc g1 g2 d o by first | exact C0.out | exact C0.out.drew | exact C0.out.drewN _).then hb); clear q0 q1 q2 q3 hb; have q0 := kb_cell C1.out.r (i := 0) rfl; have q1 := kb_cell C1.out.r (i := 1) rfl)
    | (go_at_call 13; (with_reducible refine (RR.out _ (by first | exact C1.out.b | exact bl_drew C1.out.b | exact bl_drewN C1.out.b _)).mono ?_); rintro e w10 ⟨rfl, hb⟩; have C2 := Lib.hid (bl_then (show Below W.heap.size W _ by first | exact C1.out.b | exact bl_drew C1.out.b | exact bl_drewN C1.out.b _) hb); clear hb))
  go_ret
  exact ⟨by simp, by first | exact C2.out | exact bl_drewN C2.out _⟩
end Go.Proofs.YtaedkekjekbjmaaDoor

/- The frame of the rows of this seat: the one listed variable (math/bits' table) as cells; a start that fits. -/
namespace Go.Proofs.YtaedkekjekbjmaaDoor
open Go Go.ChangeShapes Go.WideShapes Go.RowKit GFl
set_option maxRecDepth 100000

theorem Tryd.own : ownKnob Tryd.prog.godebug = none := by kernel_rfl
theorem w64_of {x : Nat} (h : (Lit.float .f64 x).wf = true) : W64 x := W64.mk (by simpa [Lit.wf] using h)
theorem no_standIn {ps : Array TypeId} {fn : Func} (h : fn.params = ps) (hall : (ps.toList.all fun t => !Tryd.prog.wantsStandIn t) = true) : ∀ (j : Nat) (t : TypeId), fn.params[j]? = some t → Tryd.prog.wantsStandIn t = false := by
  intro j t ht
  rw [h] at ht
  have hm : t ∈ ps.toList := by rw [Array.mem_toList_iff]; exact Array.mem_of_getElem? ht
  have := List.all_eq_true.1 hall t hm
  simpa using this
def tabZs : List Int := Lib.deBruijn64tab.map fun (n : Nat) => (n : Int)
def laidL : List (String × DataW Unit) := [("math/bits.deBruijn64tab", Rows.laid_math_bits_deBruijn64tab)]
theorem laidL_eq : laidL = ("math/bits.deBruijn64tab", Lib.tabData .u8 tabZs) :: [] := by kernel_rfl
theorem tab_named : Tryd.prog.globalNamed "math/bits.deBruijn64tab" = some 1 := by kernel_rfl
theorem tab_type : (Tryd.prog.globals[1]?).map (·.type) = some 108 := by kernel_rfl
theorem tab_of_laid {W : World} (h : laidMet Tryd.prog laidL W) : Tab W := by
  rw [laidL_eq] at h
  have ht := Lib.tabIs_of_head tab_named tab_type Tryd.underlying108 Tryd.underlying5 (by kernel_rfl) (by kernel_rfl) h
  intro j hj
  have hc := ht.cell tab_named j (by simpa [tabZs] using hj)
  rw [hc]
  congr 2
  simp [tabZs, List.getD, hj]

def tabCells : Array Value := (tabZs.map fun z => Value.int .u8 z).toArray
noncomputable def laidWorld (os : Os) : World :=
  { World.holding Tryd.prog os ⟨#[], #[], []⟩ with heap := (World.holding Tryd.prog os ⟨#[], #[], []⟩).heap.modify 1 fun
      | .cells _ t frozen => .cells tabCells t frozen
      | o => o }
theorem laidWorld_row (os : Os) (args : Array Value) : ((laidWorld os).forCall (fun _ _ => 0) ⟨#[], args, []⟩).memory.heap[1]? = some (.cells tabCells 108 (0, 0)) := by kernel_rfl
theorem tab_places : ((MemPlace.row ⟨1, 0, none⟩ tabCells.size ++ ([] : List MemPlace) ++ []).Nodup) := by decide
theorem laidWorld_met (os : Os) (args : Array Value) : laidMet Tryd.prog laidL ((laidWorld os).forCall (fun _ _ => 0) ⟨#[], args, []⟩).memory := by
  refine ⟨_, ⟨1, 108, tabCells, 8, [], [], by kernel_rfl, by kernel_rfl, by kernel_rfl, by kernel_rfl, rfl, rfl⟩, tab_places, fun b off h => ?_⟩
  have h' : MemPlace.cell b off ∈ (MemPlace.row ⟨1, 0, none⟩ tabCells.size : List MemPlace) := by simpa using h
  have hall : (MemPlace.row ⟨1, 0, none⟩ tabCells.size : List MemPlace).all (fun p => match p with | .cell b _ => b == 1 | _ => false) = true := by decide
  have hb := List.all_eq_true.1 hall _ h'
  obtain rfl : b = 1 := by simpa using hb
  refine ⟨⟨_, _, laidWorld_row os args⟩, fun u v hc => ?_⟩
  exfalso
  simp only [World.cell?, laidWorld_row os args] at hc
  have hc' : tabCells[off]? = some (.iface u v) := by simpa using hc
  unfold tabCells at hc'
  simp at hc'
end Go.Proofs.YtaedkekjekbjmaaDoor

/- Lists of floats, chains and lists of small numbers as arguments of a row: opened. -/
namespace Go.Proofs.YtaedkekjekbjmaaDoor
open Go Go.ChangeShapes Go.WideShapes Go.RowKit Go.Deep GFl
open Go.Proofs.YtaedkekjekbjmaaDoorW.PrintWords (Kd)
set_option maxRecDepth 100000

theorem jk_laidOut : laidOutB Tryd.prog = true := by kernel_rfl
theorem rs_rec1 : Tryd.prog.readableRec 22 = true := by kernel_rfl
theorem rs_row1 : (22 : TypeId) < Tryd.prog.types.size := of_decide_eq_true (by kernel_rfl)
theorem rs_rec2 : Tryd.prog.readableRec 24 = true := by kernel_rfl
theorem rs_row2 : (24 : TypeId) < Tryd.prog.types.size := of_decide_eq_true (by kernel_rfl)
theorem rs_cf : Tryd.prog.cellsOf 25 = 1 := by kernel_rfl
theorem rs_cc : Tryd.prog.cellsOf 24 = 2 := by kernel_rfl
theorem list_of {α : Type} {p : Nat → α → Prop} : ∀ n, (∀ i, i < n → ∃ j, p i j) → ∃ l : List α, l.length = n ∧ ∀ i j, l[i]? = some j → p i j
  | 0, _ => ⟨[], rfl, fun i j h => by simp at h⟩
  | n + 1, h => by
    obtain ⟨l, hl, hp⟩ := list_of n (fun i hi => h i (by omega))
    obtain ⟨j, hj⟩ := h n (by omega)
    refine ⟨l ++ [j], by simp [hl], fun i x hx => ?_⟩
    rcases Nat.lt_or_ge i l.length with hi | hi
    · rw [List.getElem?_append_left hi] at hx; exact hp i x hx
    · rw [List.getElem?_append_right hi] at hx
      have e : i - l.length = 0 := by
        have := (List.getElem?_eq_some_iff.1 hx).1
        simp at this; omega
      rw [e] at hx
      have : x = j := by simpa using hx.symm
      subst this
      have : i = n := by omega
      subst this; exact hj
section
variable {H : Type} {enc : TypeId × Value → H} {P : Program} {w : World} {base : Nat} {spare : Nat → Bool} {held : Bool}
theorem trod_flt {k : FloatKind} {t : TypeId} {fuel : Nat} {cs : List Value} {x : DataW H × List MemPlace} (ht : P.underlying t = some (.float k)) (h : DataW.trod enc P w base spare held fuel t cs = some x) : ∃ n, cs = [.float k n] ∧ (Lit.float k n).wf = true := by
  cases fuel with
  | zero => simp [DataW.trod] at h
  | succ n =>
    unfold DataW.trod at h
    rw [ht] at h
    split at h <;> simp_all
end
section
variable {H : Type} {enc : TypeId × Value → H} {w : World} {base : Nat} {spare : Nat → Bool} {held : Bool}
theorem open_fls {fuel : Nat} {c : Value} {x : DataW H × List MemPlace} (h : DataW.trod enc Tryd.prog w base spare held fuel 22 [c] = some x) :
    ∃ (A : Option Addr) (cap : Nat) (l : List Nat), c = .slice A l.length cap ∧ l.length ≤ cap ∧ Fl w A l ∧ (∀ y ∈ l, W64 y) ∧ (A = none → cap = 0 ∧ l = []) := by
  rcases open_slice1 Tryd.underlying22 rs_cf h with ⟨hc, _⟩ | ⟨ad, len, cap, m, n, V, D, Pl, hc, hb, hl, hm, hmm, _, hi⟩
  · have hc : c = .slice none 0 0 := by simpa using hc
    subst hc
    exact ⟨none, 0, [], rfl, Nat.le_refl _, Fl.mk (by simp) (fun h => by simp at h), fun y hy => (by cases hy), fun _ => ⟨rfl, rfl⟩⟩
  · have hc : c = .slice (some ad) len cap := by simpa using hc
    subst hc
    have hlm : len ≤ m := by rw [hmm]; split <;> omega
    obtain ⟨l, hll, hp⟩ := list_of (p := fun i y => w.cell? (ad.add i) = some (.float .f64 y) ∧ W64 y) len (fun i hil => by
      obtain ⟨hc, ht⟩ := hi i (by omega)
      obtain ⟨y, he, hw⟩ := trod_flt Tryd.underlying25 ht
      have he : V i = .float .f64 y := by simpa using he
      exact ⟨y, by rw [hc, he], w64_of hw⟩)
    subst hll
    have hmx : cap ≤ 9223372036854775807 := hm
    refine ⟨some ad, cap, l, rfl, hl, Fl.mk (by omega) (fun _ => ⟨ad, rfl, fun i hi => (hp i _ (List.getElem?_eq_getElem hi)).1⟩), fun y hy => ?_, fun h => by cases h⟩
    obtain ⟨i, hi1, rfl⟩ := List.getElem_of_mem hy
    exact (hp i _ (List.getElem?_eq_getElem hi1)).2
theorem open_reals {r : Reach} {b0 : Nat} {v : Value} {d : DataW H} {p : List MemPlace} (hv : Value.okWide Tryd.prog w r b0 22 v) (h : DataW.Trod enc Tryd.prog w base spare held 22 v d p) :
    ∃ (A : Option Addr) (cap : Nat) (l : List Nat), v = .slice A l.length cap ∧ l.length ≤ cap ∧ Fl w A l ∧ (∀ y ∈ l, W64 y) ∧ (A = none → cap = 0 ∧ l = []) := by
  obtain ⟨a, len, cap, rfl⟩ := okWide_slice Tryd.underlying22 hv
  obtain ⟨fuel, hf⟩ := h
  exact open_fls hf
end
end Go.Proofs.YtaedkekjekbjmaaDoor

/- Lists of floats as arguments of a row, with their size. -/
namespace Go.Proofs.YtaedkekjekbjmaaDoor
open Go Go.ChangeShapes Go.WideShapes Go.RowKit Go.Deep GFl
set_option maxRecDepth 100000

theorem rl_bytes : Tryd.prog.bytesOf 25 = 8 := by kernel_rfl
section
variable {H : Type} {enc : TypeId × Value → H} {w : World} {base : Nat} {spare : Nat → Bool} {held : Bool}
theorem open_lreals {r : Reach} {b0 : Nat} {v : Value} {d : DataW H} {p : List MemPlace} (hv : Value.okWide Tryd.prog w r b0 22 v) (h : DataW.Trod enc Tryd.prog w base spare held 22 v d p) :
    ∃ (A : Option Addr) (cap : Nat) (l : List Nat), v = .slice A l.length cap ∧ l.length ≤ cap ∧ Fl w A l ∧ (∀ y ∈ l, W64 y) ∧ (A = none → cap = 0 ∧ l = []) ∧ (l = [] ∨ ∃ E S : List (DataW H), d = .slice E S ∧ E.length = l.length) := by
  have h' := h
  obtain ⟨A, c, l, rfl, hl, hC, hw, hN⟩ := open_reals hv h
  obtain ⟨fuel, hf⟩ := h'
  refine ⟨A, c, l, rfl, hl, hC, hw, hN, ?_⟩
  rcases open_slice Tryd.underlying22 hf with ⟨hcs, _⟩ | ⟨ad, n, cap, m, k, D, Pl, hcs, hb, hle, hm, hmm, hx, hi⟩
  · simp [Value.cells] at hcs
    obtain ⟨_, h0, _⟩ := hcs
    exact Or.inl h0
  · simp [Value.cells] at hcs
    obtain ⟨_, hn, _⟩ := hcs
    refine Or.inr ⟨_, _, congrArg Prod.fst hx, ?_⟩
    simp [hn]
theorem lreal_size {ts : List TypeId} {ds : List (DataW H)} {j : Nat} {d : DataW H} {l : List Nat} (hD : l = [] ∨ ∃ E S : List (DataW H), d = .slice E S ∧ E.length = l.length) (hsz : (DataW.weightsEach Tryd.prog ts ds).all (· ≤ reachBytes) = true) (ht : ts[j]? = some 22) (hd : ds[j]? = some d) : l.length * 8 ≤ 140737488351232 := by
  rcases hD with rfl | ⟨E, S, rfl, hE⟩
  · simp
  · have := sized_slice hsz ht hd Tryd.underlying22
    rw [rl_bytes] at this
    simp only [reachBytes] at this
    omega
end
end Go.Proofs.YtaedkekjekbjmaaDoor

/- A chain as an argument of a row, with its size. -/
namespace Go.Proofs.YtaedkekjekbjmaaDoor
open Go Go.ChangeShapes Go.WideShapes Go.RowKit Go.Deep GFl
set_option maxRecDepth 100000

section
variable {H : Type} {enc : TypeId × Value → H} {w : World} {base : Nat} {spare : Nat → Bool} {held : Bool}
theorem open_lfls {fuel : Nat} {c : Value} {x : DataW H × List MemPlace} (h : DataW.trod enc Tryd.prog w base spare held fuel 22 [c] = some x) :
    ∃ (A : Option Addr) (cap : Nat) (l : List Nat), c = .slice A l.length cap ∧ l.length ≤ cap ∧ Fl w A l ∧ (∀ y ∈ l, W64 y) ∧ (A = none → cap = 0 ∧ l = []) ∧ (l = [] ∨ ∃ E S : List (DataW H), x.1 = .slice E S ∧ E.length = l.length) := by
  obtain ⟨A, c, l, rfl, hl, hC, hw, hN⟩ := open_fls h
  refine ⟨A, c, l, rfl, hl, hC, hw, hN, ?_⟩
  rcases open_slice Tryd.underlying22 h with ⟨hcs, _⟩ | ⟨ad, n, cap, m, k, D, Pl, hcs, hb, hle, hm, hmm, hx, hi⟩
  · simp at hcs
    obtain ⟨_, h0, _⟩ := hcs
    exact Or.inl h0
  · simp at hcs
    obtain ⟨_, hn, _⟩ := hcs
    refine Or.inr ⟨_, _, congrArg Prod.fst hx, ?_⟩
    simp [hn]
theorem open_lchain {r : Reach} {b0 : Nat} {v : Value} {d : DataW H} {p : List MemPlace} (hv : Value.okWide Tryd.prog w r b0 24 v) (h : DataW.Trod enc Tryd.prog w base spare held 24 v d p) :
    ∃ (A B : Option Addr) (cA cB : Nat) (l m : List Nat), v = .agg #[.slice A l.length cA, .slice B m.length cB] ∧ l.length ≤ cA ∧ m.length ≤ cB ∧ Fl w A l ∧ Fl w B m ∧ (∀ y ∈ l, W64 y) ∧ (∀ y ∈ m, W64 y) ∧ (A = none → cA = 0 ∧ l = []) ∧ (B = none → cB = 0 ∧ m = []) ∧
      (l = [] ∨ ∃ (E S : List (DataW H)) (y : DataW H), d = .agg [.slice E S, y] ∧ E.length = l.length) ∧ (m = [] ∨ ∃ (E S : List (DataW H)) (y : DataW H), d = .agg [y, .slice E S] ∧ E.length = m.length) := by
  obtain ⟨cs, rfl, _⟩ := okWide_struct Tryd.underlying24 hv
  obtain ⟨fuel, h⟩ := h
  obtain ⟨xs, n, hd, hx, hlen, hxl, hf⟩ := DataW.trod_struct Tryd.underlying24 h
  rw [rs_cc] at hlen
  obtain ⟨cs⟩ := cs
  change cs.length = 2 at hlen
  match cs, hlen with
  | [c0, c1], _ =>
    have h0 := hf 0 _ rfl
    have h1 := hf 1 _ rfl
    have hs : xs.length = 2 := hxl
    match xs, hs with
    | [y0, y1], _ =>
      have g0 : DataW.trod enc Tryd.prog w base spare held n 22 [c0] = some y0 := h0
      have g1 : DataW.trod enc Tryd.prog w base spare held n 22 [c1] = some y1 := h1
      obtain ⟨A, cA, l, rfl, j1, j2, j3, j4, j5⟩ := open_lfls g0
      obtain ⟨B, cB, m, rfl, k1, k2, k3, k4, k5⟩ := open_lfls g1
      have e : d = .agg [y0.1, y1.1] := by simpa using congrArg Prod.fst hx
      refine ⟨A, B, cA, cB, l, m, rfl, j1, k1, j2, k2, j3, k3, j4, k4, ?_, ?_⟩
      · exact j5.imp id (fun ⟨E, S, a, b⟩ => ⟨E, S, y1.1, by rw [e, a], b⟩)
      · exact k5.imp id (fun ⟨E, S, a, b⟩ => ⟨E, S, y0.1, by rw [e, a], b⟩)
theorem lchain_size0 {ts : List TypeId} {ds : List (DataW H)} {j : Nat} {d : DataW H} {l : List Nat} (hD : l = [] ∨ ∃ (E S : List (DataW H)) (y : DataW H), d = .agg [.slice E S, y] ∧ E.length = l.length) (hsz : (DataW.weightsEach Tryd.prog ts ds).all (· ≤ reachBytes) = true) (ht : ts[j]? = some 24) (hd : ds[j]? = some d) : l.length * 8 ≤ 140737488351232 := by
  rcases hD with rfl | ⟨E, S, y, rfl, hE⟩
  · simp
  · have h1 : (E.length + S.length) * Tryd.prog.bytesOf 25 ∈ (DataW.agg [.slice E S, y]).weights Tryd.prog 24 := by
      simp only [DataW.weights, Tryd.underlying24]
      exact DataW.weights_mem_each (j := 0) (t := 22) rfl rfl _ (by simp [DataW.weights, Tryd.underlying22])
    have h2 := List.all_eq_true.1 hsz _ (DataW.weights_mem_each ht hd _ h1)
    rw [rl_bytes] at h2
    simp only [reachBytes] at h2
    have := of_decide_eq_true h2
    omega
theorem lchain_size1 {ts : List TypeId} {ds : List (DataW H)} {j : Nat} {d : DataW H} {l : List Nat} (hD : l = [] ∨ ∃ (E S : List (DataW H)) (y : DataW H), d = .agg [y, .slice E S] ∧ E.length = l.length) (hsz : (DataW.weightsEach Tryd.prog ts ds).all (· ≤ reachBytes) = true) (ht : ts[j]? = some 24) (hd : ds[j]? = some d) : l.length * 8 ≤ 140737488351232 := by
  rcases hD with rfl | ⟨E, S, y, rfl, hE⟩
  · simp
  · have h1 : (E.length + S.length) * Tryd.prog.bytesOf 25 ∈ (DataW.agg [y, .slice E S]).weights Tryd.prog 24 := by
      simp only [DataW.weights, Tryd.underlying24]
      exact DataW.weights_mem_each (j := 1) (t := 22) rfl rfl _ (by simp [DataW.weights, Tryd.underlying22])
    have h2 := List.all_eq_true.1 hsz _ (DataW.weights_mem_each ht hd _ h1)
    rw [rl_bytes] at h2
    simp only [reachBytes] at h2
    have := of_decide_eq_true h2
    omega
end
end Go.Proofs.YtaedkekjekbjmaaDoor

/- girderref17.at, middle, gives, Least; girderlaw17.SturmLeasts. -/
namespace Go.Proofs.YtaedkekjekbjmaaDoor
open Go Go.RowKit Nv GFl Ieee
open Go.Proofs.YtaedkekjekbjmaaDoorW.PrintWords (own_move own_ne own_lt own_base)
set_option maxRecDepth 100000
set_option linter.unusedSimpArgs false

theorem bd_zero_ (m : Nat) : Bd m 0 := Nat.two_pow_pos m
set_option maxHeartbeats 4000000 in
theorem givesR_c (A B : Option Addr) (cA cB : Nat) (p l : List Nat) (s : Nat) (W : World) (hp : Fl W A p) (hl : Fl W B l) (wp : ∀ x ∈ p, W64 x) (wl : ∀ x ∈ l, W64 x) (h : Gd p l s) :
    Calls Tryd.prog 36 #[.slice A p.length cA, .slice B l.length cB, .float .f64 s] W fun e w' => e = .returned (.bool (gvB p l s)) ∧ Below W.heap.size W w' := by
  have CC := Lib.hid (chordR_c A B cA cB p l s W hp hl wp wl (h.s.w))
  obtain ⟨c1, c2, c3, c4⟩ := ch_cf h
  have hn := h.n
  have he := gd_mk h
  have bc : ∀ w (vD vO : Value), Ow w W.heap.size vD (chD p l s) → Ow w W.heap.size vO (chO p l s) → ∀ v, NS w v 0 0 0 → Calls Tryd.prog 26 #[.agg #[vD, vO], v] w fun e w' => e = .returned (.int .i64 (St.cnt 0 ((chD p l s).map val) ((chO p l s).map val))) ∧ Below w.heap.size w w' := fun w vD vO hD hO v hv => by
    obtain ⟨AD, nD, rfl, _, fD⟩ := ow_sl hD
    obtain ⟨AO, nO, rfl, _, fO⟩ := ow_sl hO
    have hv' := hv.up (k' := 1074) (E' := 1023) (by omega) (by omega)
    rw [Int.zero_mul] at hv'
    exact belowR_c AD AO nD nO _ _ v 0 w fD fO c1 c2 (by omega) (by omega) hv' (bd_zero_ 1577)
  have BC := Lib.hid bc
  have WH : Hid (∀ w, Calls Tryd.prog 51 #[.int .i64 0] w (ZPost 0 0 0 w)) := Lib.hid (fun w => whole_s 0 (by decide) w)
  have HE := Lib.hid he
  have GV : Hid (gvB p l s = decide (0 < St.cnt 0 ((chD p l s).map val) ((chO p l s).map val))) := Lib.hid rfl
  obtain ⟨C, hC⟩ : ∃ C, St.cnt 0 ((chD p l s).map val) ((chO p l s).map val) = C := ⟨_, rfl⟩
  rw [hC] at BC GV
  clear c1 c2 c3 c4 hn he bc hp hl wp wl h hC
  go_enter Tryd.func36, Tryd.ntmps36
  go_upto_region 2 with (first
    | (go_at_call 35; (with_reducible refine (CC.out).mono ?_); rintro e w1 ⟨vD, vO, rfl, hD, hO, hb⟩
       obtain ⟨AD, nD, rfl, _, _⟩ := ow_sl hD
       obtain ⟨AO, nO, rfl, _, _⟩ := ow_sl hO
       have HD := Lib.hid hD
       have HO := Lib.hid hO
       have HB := Lib.hid hb
       clear hD hO hb))
  have B1 := Lib.hid (bl_drew (bl_alloc HB.out (.cells #[.slice AD (chD p l s).length nD, .slice AO (chO p l s).length nO] 24)))
  have K1 := Lib.hid (kb_new (w := w1) (o := .cells #[.slice AD (chD p l s).length nD, .slice AO (chO p l s).length nO] 24) (dr_below _))
  have D1 := Lib.hid (ow_below HD.out (bl_drew (bl_alloc (Below.refl w1.heap.size w1) (.cells #[.slice AD (chD p l s).length nD, .slice AO (chO p l s).length nO] 24))))
  have O1 := Lib.hid (ow_below HO.out (bl_drew (bl_alloc (Below.refl w1.heap.size w1) (.cells #[.slice AD (chD p l s).length nD, .slice AO (chO p l s).length nO] 24))))
  refine wp_region_G (g := 2) (S := fun w' => w'.cell? ⟨w1.heap.size, 0, none⟩ = some (.slice AD (chD p l s).length nD) ∧ w'.cell? ⟨w1.heap.size, 1, none⟩ = some (.slice AO (chO p l s).length nO)) (by kernel_rfl) ?_
  obtain ⟨w3, hw3⟩ : ∃ w, (w1.alloc (.cells #[.slice AD (chD p l s).length nD, .slice AO (chO p l s).length nO] 24)).drew = w := ⟨_, rfl⟩
  obtain ⟨b1, hb1⟩ : ∃ b, w1.heap.size = b := ⟨_, rfl⟩
  rw [hw3] at B1 K1 D1 O1
  rw [hb1] at K1
  simp only [hw3, hb1]
  clear hw3 hb1 HD HO HB
  have hS : w3.cell? ⟨b1, 0, none⟩ = some (.slice AD (chD p l s).length nD) ∧ w3.cell? ⟨b1, 1, none⟩ = some (.slice AO (chO p l s).length nO) := ⟨kb_cell K1.out (i := 0) rfl, kb_cell K1.out (i := 1) rfl⟩
  (refine wpG_ld (i := 0) 2 (v := ?_) rfl rfl (by kernel_rfl) (by kernel_rfl) (by kernel_rfl) (by kernel_rfl) (fun _ _ _ h => h) (Or.inl ⟨by rfl, ?_⟩) hS ?_; rotate_left; focus (intro w hSw; (try dsimp only at hSw); go_simp; first | done | with_reducible rfl | exact rfl)); (try simp only [Act.put, List.setIfInBounds_toArray, List.set_cons_zero, List.set_cons_succ, List.getElem_toArray, List.getElem_cons_zero, List.getElem_cons_succ])
  refine wpG_one (i := 1) (by kernel_rfl) rfl (fun K hK => ?_); have HK := Lib.hid hK; clear hK
  go_simp
  (with_reducible refine (WH.out _).mono ?_)
  rintro e w4 ⟨v, rfl, hv, hb⟩
  have HV := Lib.hid hv
  have B2 := Lib.hid (bl_then B1.out hb)
  have D2 := Lib.hid (ow_below D1.out hb)
  have O2 := Lib.hid (ow_below O1.out hb)
  have hS2 := And.intro (kb_cB hb hS.1) (kb_cB hb hS.2)
  refine HK.out _ _ (Or.inr hS2) ?_
  clear HK K hv hb hS
  (try simp only [Act.put, List.setIfInBounds_toArray, List.set_cons_zero, List.set_cons_succ, List.getElem_toArray, List.getElem_cons_zero, List.getElem_cons_succ])
  have hS := hS2
  refine wpG_one (i := 2) (by kernel_rfl) rfl (fun K hK => ?_); have HK := Lib.hid hK; clear hK
  go_simp
  (with_reducible refine (BC.out _ _ _ D2.out O2.out _ HV.out).mono ?_)
  rintro e w5 ⟨rfl, hb⟩
  have B3 := Lib.hid (bl_then B2.out hb)
  refine HK.out _ _ (Or.inl (by kernel_rfl)) ?_
  clear HK K hb hS hS2
  (try simp only [Act.put, List.setIfInBounds_toArray, List.set_cons_zero, List.set_cons_succ, List.getElem_toArray, List.getElem_cons_zero, List.getElem_cons_succ])
  (refine wpG_take (i := 3) (v := ?_) rfl rfl (by kernel_rfl) (by kernel_rfl) (by kernel_rfl) (fun _ _ _ h => h) (Or.inl ⟨by rfl, fun w => ?_⟩) (Or.inl (by kernel_rfl)) ?_; rotate_left; focus (go_simp; first | done | with_reducible rfl | exact rfl)); (try simp only [Act.put, List.setIfInBounds_toArray, List.set_cons_zero, List.set_cons_succ, List.getElem_toArray, List.getElem_cons_zero, List.getElem_cons_succ]); (refine wpG_take (i := 4) (v := ?_) rfl rfl (by kernel_rfl) (by kernel_rfl) (by kernel_rfl) (fun _ _ _ h => h) (Or.inl ⟨by rfl, fun w => ?_⟩) (Or.inl (by kernel_rfl)) ?_; rotate_left; focus (go_simp; first | done | with_reducible rfl | exact rfl)); (try simp only [Act.put, List.setIfInBounds_toArray, List.set_cons_zero, List.set_cons_succ, List.getElem_toArray, List.getElem_cons_zero, List.getElem_cons_succ])
  refine wpG_done (by kernel_rfl) ?_ _
  go_wp2
  go_ret
  exact ⟨by rw [GV.out]; rfl, B3.out⟩
set_option maxHeartbeats 8000000 in
theorem leastR_c (A B : Option Addr) (cA cB : Nat) (p l : List Nat) (s : Nat) (W : World) (hp : Fl W A p) (hl : Fl W B l) (wp : ∀ x ∈ p, W64 x) (wl : ∀ x ∈ l, W64 x) (hs : W64 s) :
    Calls Tryd.prog 16 #[.slice A p.length cA, .slice B l.length cB, .float .f64 s] W fun e w' => e = .returned (.tuple #[.float .f64 (leastL p l s), .float .f64 (leastH p l s), .int .i64 (leastE p l s)]) ∧ Below W.heap.size W w' := by
  have CC := Lib.hid (chordR_c A B cA cB p l s W hp hl wp wl hs)
  by_cases he : chordE p l s = 0
  · have gd := gd_of wp wl hs he
    have gc : ∀ t, Ps t → ∀ w, Below W.heap.size W w → Calls Tryd.prog 36 #[.slice A p.length cA, .slice B l.length cB, .float .f64 t] w fun e w' => e = .returned (.bool (gvB p l t)) ∧ Below w.heap.size w w' := fun t ht w h => givesR_c A B cA cB p l t w (hp.below h) (hl.below h) wp wl (gd.push ht)
    have GC := Lib.hid gc
    have HE := Lib.hid he
    have GS := Lib.hid gd.s
    have pz : rg s = 0 → gvB p l s = false := gv_zero gd
    have PZ := Lib.hid pz
    have pc := placeR_c s hs
    have pf : placeF s = plc s := placeF_f (by rw [isn_eq]; have := gd.s.hi; simp; omega)
    have pn : isn s = false := by rw [isn_eq]; have := gd.s.hi; simp; omega
    rw [pf, pn] at pc
    have PC := Lib.hid pc
    clear gc pz pc pf pn gd hp hl wp wl hs he
    cases hg : gvB p l s
    · have le : leastE p l s = 270 := by unfold leastE; rw [if_pos HE.out, hg]; rfl
      have LE := Lib.hid le
      have LL : Hid (leastL p l s = 0) := Lib.hid (if_neg (by rw [le]; decide))
      have LH : Hid (leastH p l s = 0) := Lib.hid (if_neg (by rw [le]; decide))
      have g1 := GC.out s GS.out
      rw [hg] at g1
      have G1 := Lib.hid g1
      clear le PZ PC GC hg g1
      go_enter Tryd.func16, Tryd.ntmps16
      go_wp2_with (first
        | (go_at_call 35; (with_reducible refine (CC.out).mono ?_); rintro e w1 ⟨vD, vO, rfl, hD, hO, hb⟩
           obtain ⟨AD, nD, rfl, _, _⟩ := ow_sl hD
           obtain ⟨AO, nO, rfl, _, _⟩ := ow_sl hO
           have ce := HE.out
           rw [ce]
           have HB := Lib.hid hb
           clear hD hO hb ce)
        | (go_at_call 36; (with_reducible refine (G1.out _ ?h1).mono ?_)
           case h1 => exact HB.out.alloc HB.out.size _
           rintro e w2 ⟨rfl, hb⟩
           have HB2 := Lib.hid (bl_then (HB.out.alloc HB.out.size _) hb); clear hb))
      refine bodyPost_ret (v := .tuple #[.float .f64 (leastL p l s), .float .f64 (leastH p l s), .int .i64 (leastE p l s)]) (by simp [results, Tryd.results16, go_sem, LL.out, LH.out, LE.out]) rfl ⟨rfl, HB2.out⟩
    · have le : leastE p l s = 0 := by unfold leastE; rw [if_pos HE.out, hg]; rfl
      have LE := Lib.hid le
      have LL : Hid (leastL p l s = atW (leastP p l s).1) := Lib.hid (if_pos le)
      have LH : Hid (leastH p l s = atW (leastP p l s).2) := Lib.hid (if_pos le)
      have hpos : 0 < plc s := by
        rw [GS.out.pos]
        rcases Nat.eq_zero_or_pos (rg s) with h | h
        · rw [PZ.out h] at hg; cases hg
        · omega
      have htop : plc s ≤ 4877398396442247168 := by rw [GS.out.pos]; have := GS.out.hi; omega
      have g1 := GC.out s GS.out
      rw [hg] at g1
      have G1 := Lib.hid g1
      have GT : Hid (∀ q : Int, 0 ≤ q → q ≤ plc s → ∀ w, Below W.heap.size W w → Calls Tryd.prog 36 #[.slice A p.length cA, .slice B l.length cB, .float .f64 (atW q)] w fun e w' => e = .returned (.bool (gvB p l (atW q))) ∧ Below w.heap.size w w') := Lib.hid (fun q h1 h2 => GC.out _ (atW_ps h1 (by omega)))
      have LP : Hid (leastP p l s = hlv (fun q => gvB p l (atW q)) 64 0 (plc s)) := Lib.hid rfl
      obtain ⟨T, hT⟩ : ∃ T : Int → Bool, (fun q => gvB p l (atW q)) = T := ⟨_, rfl⟩
      have hT' : ∀ q, gvB p l (atW q) = T q := fun q => by rw [← hT]
      simp only [hT'] at GT
      rw [hT] at LP
      obtain ⟨t, ht⟩ : ∃ t, plc s = t := ⟨_, rfl⟩
      rw [ht] at hpos htop GT LP PC
      rw [LP.out] at LL LH
      clear le PZ GC hg g1 LP hT hT' ht
      go_enter Tryd.func16, Tryd.ntmps16
      go_wp2_with (first
        | (go_at_call 35; (with_reducible refine (CC.out).mono ?_); rintro e w1 ⟨vD, vO, rfl, hD, hO, hb⟩
           obtain ⟨AD, nD, rfl, _, _⟩ := ow_sl hD
           obtain ⟨AO, nO, rfl, _, _⟩ := ow_sl hO
           have ce := HE.out
           rw [ce]
           have HB := Lib.hid hb
           clear hD hO hb ce)
        | (go_at_call 36; (with_reducible refine (G1.out _ ?h1).mono ?_)
           case h1 => exact HB.out.alloc HB.out.size _
           rintro e w2 ⟨rfl, hb⟩
           have HB2 := Lib.hid (bl_then (HB.out.alloc HB.out.size _) hb); clear hb)
        | (go_at_call 37; (with_reducible refine (PC.out _).mono ?_); rintro e w' ⟨rfl, hw⟩; obtain rfl := hw.symm; clear hw))
      clear PC G1 CC
      go_loopw [11, 12, 14] (fun v0 v1 _ wr => ∃ (a b : Int), v0 = .int .i64 a ∧ v1 = .int .i64 b ∧ 0 ≤ a ∧ a < b ∧ b ≤ t ∧ Hid (Below W.heap.size W wr ∧ ∃ n, b - a ≤ 2 ^ n ∧ n ≤ 64 ∧ hlv T n a b = hlv T 64 0 t)) (fun v0 v1 _ _ => (intOf v1 - intOf v0).toNat)
      case atStart => exact ⟨0, t, rfl, rfl, by omega, by omega, by omega, Lib.hid ⟨HB2.out, 64, by omega, by omega, rfl⟩⟩
      case round =>
        obtain ⟨a, b, rfl, rfl, h1, h2, h3, hq⟩ := hrel
        clear HB HB2
        have w1 : wrap64 (b - a) = b - a := by unfold wrap64; omega
        by_cases hlt : 1 < b - a
        · have l1 : decide (1 < b - a) = true := decide_eq_true hlt
          obtain ⟨M, hM⟩ : ∃ M : Int, a + (b - a) / 2 = M := ⟨_, rfl⟩
          have b1 : a < M := by omega
          have b2 : M < b := by omega
          have mc := mid_c a b (by omega) (by omega) h2 (by omega)
          rw [hM] at mc
          have ac := atS_c M (by omega) (by omega)
          have tc := GT.out M (by omega) (by omega) wr hq.out.1
          have hm : ∃ n, hlv T 64 0 t = (if T M then hlv T n a M else hlv T n M b) ∧ b - a ≤ 2 ^ (n + 1) ∧ n + 1 ≤ 64 := by
            obtain ⟨n, e1, e2, e3⟩ := hq.out.2
            cases n with
            | zero => simp at e1; omega
            | succ n =>
              refine ⟨n, ?_, e1, e2⟩
              rw [← e3]
              show (if 1 < b - a then _ else _) = _
              rw [if_pos hlt, hM]
          have HM := Lib.hid hm
          have HMV := Lib.hid hM
          have TC := Lib.hid tc
          have AC := Lib.hid ac
          have MC := Lib.hid mc
          have B1 := Lib.hid (And.intro b1 b2)
          have BL := Lib.hid hq.out.1
          clear hm hM tc ac mc b1 b2 hq hlt
          cases ht : T M
          all_goals
            have tc := TC.out
            have hm := HM.out
            rw [ht] at tc hm
            have TC2 := Lib.hid tc
            have HM2 := Lib.hid hm
            clear tc hm TC HM ht
            go_wp2_with (first
              | (go_at_call 38; (with_reducible refine (MC.out _).mono ?_); rintro e w' ⟨rfl, hw⟩; obtain rfl := hw.symm; clear hw)
              | (go_at_call 39; (with_reducible refine (AC.out _).mono ?_); rintro e w' ⟨rfl, hw⟩; obtain rfl := hw.symm; clear hw)
              | (go_at_call 36; (with_reducible refine (TC2.out).mono ?_); rintro e w2 ⟨rfl, hb⟩; have HB2 := Lib.hid hb; clear hb))
            go_roundw
            case rel =>
              obtain ⟨n, e1, e2, e3⟩ := HM2.out
              have := B1.out; have := HMV.out
              rw [Int.pow_succ] at e2
              first
                | (rw [if_neg (by simp)] at e1
                   exact ⟨M, b, rfl, rfl, by omega, by omega, by omega, Lib.hid ⟨bl_then BL.out HB2.out, n, by generalize (2 : Int) ^ n = z at *; omega, by omega, e1.symm⟩⟩)
                | (rw [if_pos trivial] at e1
                   exact ⟨a, M, rfl, rfl, by omega, by omega, by omega, Lib.hid ⟨bl_then BL.out HB2.out, n, by generalize (2 : Int) ^ n = z at *; omega, by omega, e1.symm⟩⟩)
            case measure => have := B1.out; simp [intOf]; omega
        · have l1 : decide (1 < b - a) = false := decide_eq_false hlt
          have fin : hlv T 64 0 t = (a, b) := by
            obtain ⟨n, e1, e2, e3⟩ := hq.out.2
            rw [← e3, hlv_stop T n hlt]
          have FIN := Lib.hid fin
          have BL := Lib.hid hq.out.1
          have AC := Lib.hid (atS_c a (by omega) (by omega))
          have AC2 := Lib.hid (atS_c b (by omega) (by omega))
          clear fin hq hlt
          go_wp2_with (first
            | (go_at_call 39; (first | (with_reducible refine (AC.out _).mono ?_) | (with_reducible refine (AC2.out _).mono ?_)); rintro e w' ⟨rfl, hw⟩; obtain rfl := hw.symm; clear hw))
          refine bodyPost_ret (v := .tuple #[.float .f64 (leastL p l s), .float .f64 (leastH p l s), .int .i64 (leastE p l s)]) (by simp [results, Tryd.results16, go_sem, LL.out, LH.out, LE.out, FIN.out]) rfl ⟨rfl, BL.out⟩
  · have le : leastE p l s = chordE p l s := if_neg he
    have k0 : (chordE p l s != 0) = true := by simpa using he
    have LL : Hid (leastL p l s = 0) := Lib.hid (if_neg (by rw [le]; exact he))
    have LH : Hid (leastH p l s = 0) := Lib.hid (if_neg (by rw [le]; exact he))
    obtain ⟨E, hE⟩ : ∃ E, chordE p l s = E := ⟨_, rfl⟩
    have LE := Lib.hid (le.trans hE)
    rw [hE] at k0
    have HE := Lib.hid hE
    clear hp hl wp wl hs he le hE
    go_enter Tryd.func16, Tryd.ntmps16
    go_wp2_with (first
      | (go_at_call 35; (with_reducible refine (CC.out).mono ?_); rintro e w1 ⟨vD, vO, rfl, hD, hO, hb⟩
         obtain ⟨AD, nD, rfl, _, _⟩ := ow_sl hD
         obtain ⟨AO, nO, rfl, _, _⟩ := ow_sl hO
         have ce := HE.out
         rw [ce]
         have HB := Lib.hid (bl_alloc hb (.cells #[.slice AD (chD p l s).length nD, .slice AO (chO p l s).length nO] 24))
         clear hD hO hb ce))
    refine bodyPost_ret (v := .tuple #[.float .f64 (leastL p l s), .float .f64 (leastH p l s), .int .i64 (leastE p l s)]) (by simp [results, Tryd.results16, go_sem, LL.out, LH.out, LE.out]) rfl ⟨rfl, HB.out⟩
set_option maxHeartbeats 8000000 in
theorem sturmLeasts_c {W : World} (A : Option Addr) (cA : Nat) (p : List Nat) (B : Option Addr) (cB : Nat) (l : List Nat) (s : Nat) (_hA : p.length ≤ cA) (hp : Fl W A p) (wp : ∀ x ∈ p, W64 x) (nA : A = none → cA = 0 ∧ p = []) (zA : p.length * 8 ≤ 140737488351232) (_hB : l.length ≤ cB) (hl : Fl W B l) (wl : ∀ x ∈ l, W64 x) (nB : B = none → cB = 0 ∧ l = []) (zB : l.length * 8 ≤ 140737488351232) (hs : W64 s) (hT : Tab W) :
    Calls Tryd.prog 4 #[.slice A p.length cA, .slice B l.length cB, .float .f64 s] W fun e w' => e = .returned (.bool true) ∧ Below W.heap.size W w' := by
  have B0 := Lib.hid (Below.refl W.heap.size W)
  have AW : Hid (∀ w, Below W.heap.size W w → Calls Tryd.prog 5 #[] w fun e w' => e = .returned (.bool true) ∧ Below w.heap.size w w') := Lib.hid (fun w h => awake_c w (hT.below h))
  have LP : Hid (∀ w, Below W.heap.size W w → Calls Tryd.prog 14 #[.slice A p.length cA] w fun e w' => ∃ g, e = .returned (.slice (some ⟨g, 0, none⟩) p.length (p.length + 12)) ∧ w.heap.size ≤ g ∧ Lent w' w.heap.size g p ∧ Below w.heap.size w w') := Lib.hid (fun w h => lent_reals_c A cA p (hp.below h) nA zA)
  have LL : Hid (∀ w, Below W.heap.size W w → Calls Tryd.prog 14 #[.slice B l.length cB] w fun e w' => ∃ g, e = .returned (.slice (some ⟨g, 0, none⟩) l.length (l.length + 12)) ∧ w.heap.size ≤ g ∧ Lent w' w.heap.size g l ∧ Below w.heap.size w w') := Lib.hid (fun w h => lent_reals_c B cB l (hl.below h) nB zB)
  obtain ⟨u, hu⟩ : ∃ u, Value.slice A p.length cA = u := ⟨_, rfl⟩
  obtain ⟨v, hv⟩ : ∃ v, Value.slice B l.length cB = v := ⟨_, rfl⟩
  obtain ⟨rL, hrL⟩ : ∃ b, leastL p l s = b := ⟨_, rfl⟩
  obtain ⟨rH, hrH⟩ : ∃ b, leastH p l s = b := ⟨_, rfl⟩
  obtain ⟨rE, hrE⟩ : ∃ b, leastE p l s = b := ⟨_, rfl⟩
  have SC : Hid (∀ w B1 B2 g1 g2, Below W.heap.size W w → Lent w B1 g1 p → Lent w B2 g2 l → Calls Tryd.prog 15 #[.slice (some ⟨g1, 0, none⟩) p.length (p.length + 12), .slice (some ⟨g2, 0, none⟩) l.length (l.length + 12), .float .f64 s] w fun e w' => e = .returned (.tuple #[.float .f64 rL, .float .f64 rH, .int .i64 rE]) ∧ Below w.heap.size w w') := Lib.hid (fun w B1 B2 g1 g2 h h1 h2 => by rw [← hrL, ← hrH, ← hrE]; exact least_c _ _ _ _ p l s w h1.fl h2.fl wp wl hs (hT.below h))
  have RC : Hid (∀ w, Below W.heap.size W w → Calls Tryd.prog 16 #[u, v, .float .f64 s] w fun e w' => e = .returned (.tuple #[.float .f64 rL, .float .f64 rH, .int .i64 rE]) ∧ Below w.heap.size w w') := Lib.hid (fun w h => by rw [← hrL, ← hrH, ← hrE, ← hu, ← hv]; exact leastR_c A B cA cB p l s w (hp.below h) (hl.below h) wp wl hs)
  have K1 : Hid (∀ w B1 g1, Below W.heap.size W w → Lent w B1 g1 p → Calls Tryd.prog 17 #[.slice (some ⟨g1, 0, none⟩) p.length (p.length + 12), u] w fun e w' => e = .returned (.bool true) ∧ ∃ m, w' = w.drewN m) := Lib.hid (fun w B1 g1 h h1 => by rw [← hu]; exact kept_reals_c g1 A _ cA p w h1.ow (hp.below h) rfl wp zA)
  have K2 : Hid (∀ w B1 g1, Below W.heap.size W w → Lent w B1 g1 l → Calls Tryd.prog 17 #[.slice (some ⟨g1, 0, none⟩) l.length (l.length + 12), v] w fun e w' => e = .returned (.bool true) ∧ ∃ m, w' = w.drewN m) := Lib.hid (fun w B1 g1 h h1 => by rw [← hv]; exact kept_reals_c g1 B _ cB l w h1.ow (hl.below h) rfl wl zB)
  clear hp hl wp wl nA zA nB zB hs hT _hA _hB hrL hrH hrE
  have SFL := Lib.hid (same_floatq_c rL)
  have SFH := Lib.hid (same_floatq_c rH)
  have w2 : u = .slice A p.length cA := hu.symm
  subst w2
  have w2 : v = .slice B l.length cB := hv.symm
  subst w2
  clear hu hv
  by_cases h8 : 8 < p.length
  · have k1 : decide (8 < (p.length : Int)) = true := decide_eq_true (by omega)
    go_enter Tryd.func4, Tryd.ntmps4
    go_wp2_with (first
      | (go_at_call 5; (with_reducible refine (AW.out _ B0.out).mono ?_); rintro e w1 ⟨rfl, hb⟩; have B1 := Lib.hid (bl_then B0.out hb); clear hb))
    go_ret
    exact ⟨rfl, B1.out⟩
  · have k1 : decide (8 < (p.length : Int)) = false := decide_eq_false (by omega)
    clear h8
    go_enter Tryd.func4, Tryd.ntmps4
    go_upto_region 8 with (first
      | (go_at_call 5; (with_reducible refine (AW.out _ B0.out).mono ?_); rintro e w1 ⟨rfl, hb⟩; have B0 := Lib.hid (bl_then B0.out hb); clear hb)
      | (go_at_call 14; (with_reducible refine (LP.out _ B0.out).mono ?_); rintro e w1 ⟨g1, rfl, hg, hL, hb⟩; have H1 := Lib.hid hL; have B0 := Lib.hid (bl_then B0.out hb); clear hg hL hb)
      | (go_at_call 14; (with_reducible refine (LL.out _ B0.out).mono ?_); rintro e w2 ⟨g2, rfl, hg, hL, hb⟩; have H1 := Lib.hid (lent_below H1.out hb); have H2 := Lib.hid hL; have B0 := Lib.hid (bl_then B0.out hb); clear hg hL hb)
      | (go_at_call 15; (with_reducible refine (SC.out _ _ _ _ _ B0.out H1.out H2.out).mono ?_); rintro e w3 ⟨rfl, hb⟩; have H1 := Lib.hid (lent_below H1.out hb); have H2 := Lib.hid (lent_below H2.out hb); have B0 := Lib.hid (bl_then B0.out hb); clear hb)
      | (go_at_call 16; (with_reducible refine (RC.out _ B0.out).mono ?_); rintro e w4 ⟨rfl, hb⟩; have H1 := Lib.hid (lent_below H1.out hb); have H2 := Lib.hid (lent_below H2.out hb); have B0 := Lib.hid (bl_then B0.out hb); clear hb))
    have KA : Hid (∀ w, Below w4.heap.size w4 w → Calls Tryd.prog 17 #[.slice (some ⟨g1, 0, none⟩) p.length (p.length + 12), .slice A p.length cA] w fun e w' => e = .returned (.bool true) ∧ ∃ m, w' = w.drewN m) := Lib.hid (fun w h => K1.out w _ _ (bl_then B0.out h) (lent_below H1.out h))
    have KB : Hid (∀ w, Below w4.heap.size w4 w → Calls Tryd.prog 17 #[.slice (some ⟨g2, 0, none⟩) l.length (l.length + 12), .slice B l.length cB] w fun e w' => e = .returned (.bool true) ∧ ∃ m, w' = w.drewN m) := Lib.hid (fun w h => K2.out w _ _ (bl_then B0.out h) (lent_below H2.out h))
    have B4 := Lib.hid (Below.refl w4.heap.size w4)
    clear SC RC LP LL AW K1 K2
    go_wp2_with (first
      | (go_at_call 17; (with_reducible (first | refine (KA.out _ B4.out).mono ?_ | refine (KA.out _ (bl_drewN B4.out _)).mono ?_ | refine (KA.out _ (bl_drew B4.out)).mono ?_ | refine (KB.out _ B4.out).mono ?_ | refine (KB.out _ (bl_drewN B4.out _)).mono ?_ | refine (KB.out _ (bl_drew B4.out)).mono ?_)); rintro e w5 ⟨rfl, m, rfl⟩; have B4 := Lib.hid (bl_drewN B4.out m))
      | (go_at_call 18; go_loud ((with_reducible (first | refine (SFL.out _).mono ?_ | refine (SFH.out _).mono ?_)); rintro e w6 ⟨rfl, hw⟩; obtain rfl := hw)))
    go_ret
    exact ⟨by simp, bl_then B0.out (by first | exact B4.out | exact bl_drewN B4.out _ | (simp only [World.drewN_drewN] at *; exact bl_drewN (Below.refl _ _) _))⟩
end Go.Proofs.YtaedkekjekbjmaaDoor
