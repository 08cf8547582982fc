import Derived.Test.YtaedkekjekbjmaaDoorEp
import Derived.Test.YtaedkekjekbjmaaDoorEi
import Derived.Deep.CutRange
import Derived.BigQuiet
import Derived.Test.YtaedkekjekbjmaaDoorEo
/- girderlaw17's awake. -/
namespace Go.Proofs.YtaedkekjekbjmaaDoor
open Go Go.RowKit Nv GFl Ieee
set_option maxRecDepth 100000
set_option linter.unusedSimpArgs false

theorem w_count : countN [4611686018427387904, 4611686018427387904] [4607182418800017408] 4611686018427387904 = 1 ∧ wrongE [4611686018427387904, 4611686018427387904] [4607182418800017408] 4611686018427387904 = 0 := by decide +kernel
theorem w_ex3 : exactN [4611686018427387904, 4611686018427387904] [4607182418800017408] 4613937818241073152 = 1 ∧ wrongE [4611686018427387904, 4611686018427387904] [4607182418800017408] 4613937818241073152 = 0 := by decide +kernel
theorem w_ex4 : exactN [4611686018427387904, 4611686018427387904] [4607182418800017408] 4616189618054758400 = 2 ∧ wrongE [4611686018427387904, 4611686018427387904] [4607182418800017408] 4616189618054758400 = 0 := by decide +kernel
theorem w_find : findE [4611686018427387904, 4611686018427387904] [4607182418800017408] 1 = 0 ∧ findL [4611686018427387904, 4611686018427387904] [4607182418800017408] 1 = 4613937818241073152 ∧ findH [4611686018427387904, 4611686018427387904] [4607182418800017408] 1 = 4613937818241073153 := by decide +kernel
theorem w_least : leastE [4616189618054758400] [4607182418800017408, 4607182418800017408] 4697254411347427328 = 0 ∧ leastL [4616189618054758400] [4607182418800017408, 4607182418800017408] 4697254411347427328 = 4611686018427387904 ∧ leastH [4616189618054758400] [4607182418800017408, 4607182418800017408] 4697254411347427328 = 4611686018427387905 := by decide +kernel
theorem fl2 {w : World} {b x y : Nat} (h : w.heap[b]? = some (.cells #[.float .f64 x, .float .f64 y] 25 (0, 0))) : Fl w (some ⟨b, 0, none⟩) [x, y] := by
  refine Fl.mk (by simp) (fun _ => ⟨_, rfl, fun i hi => ?_⟩)
  match i, hi with
  | 0, _ => exact kb_cell h rfl
  | 1, _ => exact kb_cell h rfl
theorem fl1 {w : World} {b x : Nat} (h : w.heap[b]? = some (.cells #[.float .f64 x] 25 (0, 0))) : Fl w (some ⟨b, 0, none⟩) [x] := by
  refine Fl.mk (by simp) (fun _ => ⟨_, rfl, fun i hi => ?_⟩)
  match i, hi with
  | 0, _ => exact kb_cell h rfl
def TwoP (W : World) (e : Ending) (w' : World) : Prop := ∃ A B, e = .returned (.agg #[.slice A 2 2, .slice B 1 1]) ∧ Fl w' A [4611686018427387904, 4611686018427387904] ∧ Fl w' B [4607182418800017408] ∧ Below W.heap.size W w'
set_option maxHeartbeats 4000000 in
theorem two_c (W : World) : Calls Tryd.prog 19 #[] W (TwoP W) := by
  go_enter Tryd.func19, Tryd.ntmps19
  go_wp2
  refine bodyPost_ret (v := .agg #[.slice (some ⟨W.heap.size + 1, 0, none⟩) 2 2, .slice (some ⟨W.heap.size + 1 + 1, 0, none⟩) 1 1]) (by simp [results, Tryd.results19, go_sem]) rfl ⟨_, _, rfl, ?_, ?_, by repeat' (first | (with_reducible exact Below.refl _ _) | (with_reducible refine bl_alloc ?_ _) | (with_reducible refine bl_drewN ?_ _) | (with_reducible refine bl_drew ?_) | (with_reducible refine bl_set ?_ _ (by simp)))⟩
  · refine fl2 (kb_alloc ?_)
    have := kb_new (w := W.alloc (.cells #[.slice (some ⟨W.heap.size + 1, 0, none⟩) 2 2, .slice (some ⟨W.heap.size + 1 + 1, 0, none⟩) 1 1] 24)) (o := .cells #[.float .f64 4611686018427387904, .float .f64 4611686018427387904] 25) (Below.refl _ _)
    simpa using this
  · refine fl1 ?_
    have := kb_new (w := (W.alloc (.cells #[.slice (some ⟨W.heap.size + 1, 0, none⟩) 2 2, .slice (some ⟨W.heap.size + 1 + 1, 0, none⟩) 1 1] 24)).alloc (.cells #[.float .f64 4611686018427387904, .float .f64 4611686018427387904] 25)) (o := .cells #[.float .f64 4607182418800017408] 25) (Below.refl _ _)
    simpa using this
abbrev dT : List Nat := [4611686018427387904, 4611686018427387904]
abbrev oT : List Nat := [4607182418800017408]
theorem w2 : ∀ x ∈ dT, W64 x := fun x hx => by simp at hx; subst hx; exact w_const (by decide)
theorem w1 : ∀ x ∈ oT, W64 x := fun x hx => by simp at hx; subst hx; exact w_const (by decide)
theorem count_t (A B : Option Addr) (w : World) (hd : Fl w A dT) (ho : Fl w B oT) : Calls Tryd.prog 8 #[.agg #[.slice A 2 2, .slice B 1 1], .float .f64 4611686018427387904] w fun e w' => e = .returned (.tuple #[.int .i64 1, .int .i64 0]) ∧ Below w.heap.size w w' := by
  have h := count_c A B 2 1 dT oT 4611686018427387904 w hd ho w2 w1 (w_const (by decide))
  rw [w_count.1, w_count.2] at h
  exact h
theorem exact_3 (A B : Option Addr) (w : World) (hd : Fl w A dT) (ho : Fl w B oT) (hT : Tab w) : Calls Tryd.prog 9 #[.agg #[.slice A 2 2, .slice B 1 1], .float .f64 4613937818241073152] w fun e w' => e = .returned (.tuple #[.int .i64 1, .int .i64 0]) ∧ Below w.heap.size w w' := by
  have h := exact_c A B 2 1 dT oT 4613937818241073152 w hd ho (by decide) (by decide) w2 w1 (w_const (by decide)) hT
  rw [w_ex3.1, w_ex3.2] at h
  exact h
theorem exact_4 (A B : Option Addr) (w : World) (hd : Fl w A dT) (ho : Fl w B oT) (hT : Tab w) : Calls Tryd.prog 9 #[.agg #[.slice A 2 2, .slice B 1 1], .float .f64 4616189618054758400] w fun e w' => e = .returned (.tuple #[.int .i64 2, .int .i64 0]) ∧ Below w.heap.size w w' := by
  have h := exact_c A B 2 1 dT oT 4616189618054758400 w hd ho (by decide) (by decide) w2 w1 (w_const (by decide)) hT
  rw [w_ex4.1, w_ex4.2] at h
  exact h
theorem find_t (A B : Option Addr) (w : World) (hd : Fl w A dT) (ho : Fl w B oT) (hT : Tab w) : Calls Tryd.prog 20 #[.agg #[.slice A 2 2, .slice B 1 1], .int .i64 1] w fun e w' => e = .returned (.tuple #[.float .f64 4613937818241073152, .float .f64 4613937818241073153, .int .i64 0]) ∧ Below w.heap.size w w' := by
  have h := find_c A B 2 1 dT oT 1 w hd ho (by decide) (by decide) w2 w1 hT
  rw [w_find.1, w_find.2.1, w_find.2.2] at h
  exact h
theorem least_t (A B : Option Addr) (w : World) (hd : Fl w A [4616189618054758400]) (ho : Fl w B [4607182418800017408, 4607182418800017408]) (hT : Tab w) : Calls Tryd.prog 15 #[.slice A 1 1, .slice B 2 2, .float .f64 4697254411347427328] w fun e w' => e = .returned (.tuple #[.float .f64 4611686018427387904, .float .f64 4611686018427387905, .int .i64 0]) ∧ Below w.heap.size w w' := by
  have h := least_c A B 1 2 [4616189618054758400] [4607182418800017408, 4607182418800017408] 4697254411347427328 w hd ho (fun x hx => by simp at hx; subst hx; exact w_const (by decide)) (fun x hx => by simp at hx; subst hx; exact w_const (by decide)) (w_const (by decide)) hT
  rw [w_least.1, w_least.2.1, w_least.2.2] at h
  exact h
set_option maxHeartbeats 8000000 in
theorem awake_c (W : World) (hT : Tab W) : Calls Tryd.prog 5 #[] W fun e w' => e = .returned (.bool true) ∧ Below W.heap.size W w' := by
  have HT := Lib.hid hT
  have B0 := Lib.hid (Below.refl W.heap.size W)
  have f1 : (FloatKind.f64.format.order 4613937818241073152 4613937818241073152 == some .eq) = true := by decide +kernel
  have f2 : (FloatKind.f64.format.order 4613937818241073153 4613937818241073152 == some .gt) = true := by decide +kernel
  have f3 : (FloatKind.f64.format.order 4611686018427387904 4611686018427387904 == some .eq) = true := by decide +kernel
  have f4 : (FloatKind.f64.format.order 4611686018427387905 4611686018427387904 == some .gt) = true := by decide +kernel
  clear hT
  go_enter Tryd.func5, Tryd.ntmps5
  go_wp2_with (first
    | (go_at_call 19; (with_reducible refine (two_c _).mono ?_); rintro e w1 ⟨A, B, rfl, hd, ho, hb⟩
       have HD := Lib.hid hd
       have HO := Lib.hid ho
       have B1 := Lib.hid (bl_then B0.out hb)
       clear hd ho hb B0)
    | (go_at_call 8; (with_reducible refine (count_t A B _ HD.out HO.out).mono ?_); rintro e w2 ⟨rfl, hb⟩; have B0 := Lib.hid (bl_then B1.out hb); clear hb HD HO B1)
    | (go_at_call 9; (with_reducible refine (exact_3 A B _ HD.out HO.out (HT.out.below B1.out)).mono ?_); rintro e w2 ⟨rfl, hb⟩; have B0 := Lib.hid (bl_then B1.out hb); clear hb HD HO B1)
    | (go_at_call 9; (with_reducible refine (exact_4 A B _ HD.out HO.out (HT.out.below B1.out)).mono ?_); rintro e w2 ⟨rfl, hb⟩; have B0 := Lib.hid (bl_then B1.out hb); clear hb HD HO B1)
    | (go_at_call 20; (with_reducible refine (find_t A B _ HD.out HO.out (HT.out.below B1.out)).mono ?_); rintro e w2 ⟨rfl, hb⟩; have B0 := Lib.hid (bl_then B1.out hb); clear hb HD HO B1)
    | (go_at_call 15; (with_reducible refine (least_t _ _ _ ?h1 ?h2 ?h3).mono ?_)
       case h1 => exact fl1 (kb_alloc (kb_new (Below.refl _ _)))
       case h2 => exact fl2 (by first | exact kb_new (Below.refl _ _) | (have := kb_new (w := w2.alloc (.cells #[.float .f64 4616189618054758400] 25)) (o := .cells #[.float .f64 4607182418800017408, .float .f64 4607182418800017408] 25) (Below.refl _ _); simpa using this))
       case h3 => exact HT.out.below (bl_alloc (bl_alloc B0.out _) _)
       rintro e w3 ⟨rfl, hb⟩; have B2 := Lib.hid (bl_then (bl_alloc (bl_alloc B0.out _) _) hb); clear hb))
  go_ret
  exact ⟨rfl, B2.out⟩
end Go.Proofs.YtaedkekjekbjmaaDoor

/- girderlaw17.SturmBetween. -/
namespace Go.Proofs.YtaedkekjekbjmaaDoor
open Go Go.RowKit Nv GFl
set_option maxRecDepth 100000
set_option linter.unusedSimpArgs false

/-- A world with the chain laid out. -/
structure CB (W w : World) (u v : Value) : Prop where
  b : Below W.heap.size W w
  r : w.heap[W.heap.size]? = some (.cells #[u, v] 24 (0, 0))
theorem CB.then {W w w' : World} {u v : Value} (h : CB W w u v) (hb : Below w.heap.size w w') : CB W w' u v := ⟨bl_then h.b hb, kb_keep hb h.r⟩
theorem CB.drewN {W w : World} {u v : Value} (h : CB W w u v) (n : Nat) : CB W (w.drewN n) u v := ⟨bl_drewN h.b n, h.r⟩
theorem CB.drew {W w : World} {u v : Value} (h : CB W w u v) : CB W w.drew u v := ⟨bl_drew h.b, h.r⟩
end Go.Proofs.YtaedkekjekbjmaaDoor

/- A chain in the making: two lists of its own, in a block. -/
namespace Go.Proofs.YtaedkekjekbjmaaDoor
open Go Go.RowKit Nv GFl Ieee
open Go.Proofs.YtaedkekjekbjmaaDoorW.PrintWords (own_move own_ne own_lt print_append_cells)
set_option maxRecDepth 100000

structure LW (W w : World) (bq : Nat) (vD vO : Value) (D O : List Nat) : Prop where
  b : Below W.heap.size W w
  q : w.heap[bq]? = some (.cells #[vD, vO] 24 (0, 0))
  d : Ow w W.heap.size vD D
  o : Ow w W.heap.size vO O
  sep : ∀ b, vD.ownBlock = some b → vO.ownBlock ≠ some b
  ne : W.heap.size ≤ bq
theorem LW.drewN {W w : World} {bq : Nat} {vD vO : Value} {D O : List Nat} (h : LW W w bq vD vO D O) (n : Nat) : LW W (w.drewN n) bq vD vO D O := ⟨bl_drewN h.b n, h.q, h.d, h.o, h.sep, h.ne⟩
theorem LW.drew {W w : World} {bq : Nat} {vD vO : Value} {D O : List Nat} (h : LW W w bq vD vO D O) : LW W w.drew bq vD vO D O := ⟨bl_drew h.b, h.q, h.d, h.o, h.sep, h.ne⟩
theorem ow_below {w w' : World} {B : Nat} {v : Value} {l : List Nat} (h : Ow w B v l) (hb : Below w.heap.size w w') : Ow w' B v l := own_move h (fun k hk => hb.block k (own_lt h k hk))
theorem ow_base {w : World} {B B' : Nat} {v : Value} {l : List Nat} (h : Ow w B v l) (hb : B' ≤ B) : Ow w B' v l := by
  obtain ⟨h1, h2⟩ := h
  refine ⟨h1, ?_⟩
  rcases h2 with h2 | ⟨g, cap, cur, e, hg, r⟩
  · exact .inl h2
  · exact .inr ⟨g, cap, cur, e, by omega, r⟩
theorem LW.below {W w w' : World} {bq : Nat} {vD vO : Value} {D O : List Nat} (h : LW W w bq vD vO D O) (hb : Below w.heap.size w w') : LW W w' bq vD vO D O := ⟨bl_then h.b hb, kb_keep hb h.q, ow_below h.d hb, ow_below h.o hb, h.sep, h.ne⟩
theorem LW.appO {W w w1 : World} {bq : Nat} {vD vO v1 : Value} {D O : List Nat} {x : Nat} (h : LW W w bq vD vO D O) (hown : w1.ownsRow W.heap.size 25 1 v1 (O.length + 1) (O.map (Value.float .f64) ++ [.float .f64 x])) (hb : Below W.heap.size W w1) (hg : w.grownBy w1 vO.ownBlock)
    (hat : v1.ownBlock = vO.ownBlock ∨ ∃ b, v1.ownBlock = some b ∧ w.heap.size ≤ b) : w1.heap[bq]? = some (.cells #[vD, vO] 24 (0, 0)) ∧ LW W (w1.setCell ⟨bq, 1, none⟩ v1) bq vD v1 D (O ++ [x]) := by
  have q1 : w1.heap[bq]? = some (.cells #[vD, vO] 24 (0, 0)) := (hg.block bq (kb_lt h.q) (own_ne h.o h.q f_ne)).trans h.q
  have hown2 : Ow w1 W.heap.size v1 (O ++ [x]) := by unfold Ow; rw [List.length_append, List.map_append]; exact hown
  have hne := h.ne
  refine ⟨q1, hb.setCell (p := ⟨bq, 1, none⟩) hne v1, ?_, ?_, ?_, ?_, hne⟩
  · exact heap_set q1 1 v1
  · refine own_move h.d (fun k hk => ?_)
    have hlt := own_lt h.d k hk
    rw [Below.heap_setCell _ _ _ _ (show k ≠ bq from fun e => own_ne h.d h.q f_ne (by rw [hk, e]))]
    exact hg.block k hlt (fun e => h.sep k hk e.symm)
  · exact own_move hown2 (fun k hk => Below.heap_setCell _ _ _ _ (fun e => own_ne hown2 q1 f_ne (by rw [hk]; exact congrArg some e.symm)))
  · intro b hb1 hb2
    rcases hat with hat | ⟨b', hb', hle⟩
    · exact h.sep b hb1 (by rw [← hat]; exact hb2)
    · rw [hb'] at hb2
      injection hb2 with hb2
      have := own_lt h.d b hb1
      omega
end Go.Proofs.YtaedkekjekbjmaaDoor

/- girderref17.Chord: the same chain as sturm.Chord's. -/
namespace Go.Proofs.YtaedkekjekbjmaaDoor
open Go Go.RowKit Nv GFl Ieee
open Go.Proofs.YtaedkekjekbjmaaDoorW.PrintWords (own_move own_ne own_lt print_append_cells step_append_cells)
set_option maxRecDepth 100000
set_option linter.unusedSimpArgs false

theorem kb_cellA {w : World} {a : Addr} {v : Value} (h : w.cell? a = some v) (o : Obj) : (w.alloc o).cell? a = some v := ((bl_alloc (Below.refl _ _) o).cell (World.block_lt_of_cell? w _ h)).trans h
theorem cb {W w : World} {a : Addr} {v : Value} (hb : Below W.heap.size W w) (h : W.cell? a = some v) : w.cell? a = some v := (hb.cell (World.block_lt_of_cell? W _ h)).trans h
def fj (p l : List Nat) (s k : Nat) : Bool := finB s && (p.take k).all finB && (l.take k).all finB
def gj (p l : List Nat) (s k : Nat) : Bool := pshB s && (p.take k).all btwB && (l.take k).all btwB
theorem and3 (a b c x y : Bool) : (a && (b && y) && (c && x)) = (((a && b && c) && x) && y) := by cases a <;> cases b <;> cases c <;> cases x <;> cases y <;> rfl
theorem and3' (a b c x : Bool) : (a && b && (c && x)) = ((a && b && c) && x) := by cases a <;> cases b <;> cases c <;> cases x <;> rfl
theorem t60_c (w : World) : Calls Tryd.prog 25 #[.int .i64 60] w fun e w' => e = .returned (.float .f64 4877398396442247168) ∧ w' = w := by
  have := pow2_c 60 (by decide) (by decide) w
  rwa [show tw ((1074 : Int) + 60).toNat = 4877398396442247168 by decide +kernel] at this
theorem t60n_c (w : World) : Calls Tryd.prog 25 #[.int .i64 (-60)] w fun e w' => e = .returned (.float .f64 4336966441157787648) ∧ w' = w := by
  have := pow2_c (-60) (by decide) (by decide) w
  rwa [show tw ((1074 : Int) + (-60)).toNat = 4336966441157787648 by decide +kernel] at this
set_option maxHeartbeats 8000000 in
theorem chordR_no (A B : Option Addr) (cA cB : Nat) (p l : List Nat) (s : Nat) (W : World) (hp : Fl W A p) (hl : Fl W B l) (h : shpB p l = false) :
    Calls Tryd.prog 35 #[.slice A p.length cA, .slice B l.length cB, .float .f64 s] W (ChP W p l s) := by
  have ne : chordE p l s = 4 := by unfold chordE; rw [if_neg (by rw [h]; simp)]
  have l1 := hp.2.1
  have l2 := hl.2.1
  have NE := Lib.hid ne
  have fin : ∀ w', Below W.heap.size W w' → ChP W p l s (.returned (.tuple #[.agg #[.slice none 0 0, .slice none 0 0], .int .i64 4])) w' := fun w' hb => by
    have := ChP.none_ (W := W) (p := p) (l := l) (s := s) (w' := w') (by rw [ne]; decide) hb
    rw [ne] at this
    exact this
  have FIN := Lib.hid fin
  unfold shpB at h
  clear ne fin hp hl
  by_cases h1 : p.length < 1
  · have k1 : decide (p.length < 1) = true := decide_eq_true h1
    have k2 : decide ((p.length : Int) < 1) = true := decide_eq_true (by omega)
    clear h
    go_enter Tryd.func35, Tryd.ntmps35
    go_wp2
    exact bodyPost_ret (v := .tuple #[.agg #[.slice none 0 0, .slice none 0 0], .int .i64 4]) (by simp [results, Tryd.results35, go_sem]) rfl (FIN.out _ (by repeat' (first | (with_reducible exact Below.refl _ _) | (with_reducible refine bl_alloc ?_ _) | (with_reducible refine bl_drewN ?_ _) | (with_reducible refine bl_drew ?_) | (with_reducible refine bl_set ?_ _ (by simp)))))
  · have k1 : decide (p.length < 1) = false := decide_eq_false h1
    have k2 : decide ((p.length : Int) < 1) = false := decide_eq_false (by omega)
    by_cases h2 : 64 < p.length
    · have k3 : decide (64 < p.length) = true := decide_eq_true h2
      have k4 : decide ((64 : Int) < (p.length : Int)) = true := decide_eq_true (by omega)
      clear h
      go_enter Tryd.func35, Tryd.ntmps35
      go_wp2
      exact bodyPost_ret (v := .tuple #[.agg #[.slice none 0 0, .slice none 0 0], .int .i64 4]) (by simp [results, Tryd.results35, go_sem]) rfl (FIN.out _ (by repeat' (first | (with_reducible exact Below.refl _ _) | (with_reducible refine bl_alloc ?_ _) | (with_reducible refine bl_drewN ?_ _) | (with_reducible refine bl_drew ?_) | (with_reducible refine bl_set ?_ _ (by simp)))))
    · have k3 : decide (64 < p.length) = false := decide_eq_false h2
      have k4 : decide ((64 : Int) < (p.length : Int)) = false := decide_eq_false (by omega)
      have k5 : ((l.length : Int) != (p.length : Int) + 1) = true := by simp at h ⊢; omega
      clear h
      go_enter Tryd.func35, Tryd.ntmps35
      go_wp2
      exact bodyPost_ret (v := .tuple #[.agg #[.slice none 0 0, .slice none 0 0], .int .i64 4]) (by simp [results, Tryd.results35, go_sem]) rfl (FIN.out _ (by repeat' (first | (with_reducible exact Below.refl _ _) | (with_reducible refine bl_alloc ?_ _) | (with_reducible refine bl_drewN ?_ _) | (with_reducible refine bl_drew ?_) | (with_reducible refine bl_set ?_ _ (by simp)))))
set_option maxHeartbeats 16000000 in
theorem chordR_yes (A B : Option Addr) (cA cB : Nat) (p l : List Nat) (s : Nat) (W : World) (hp : Fl W A p) (hl : Fl W B l) (wp : ∀ x ∈ p, W64 x) (wl : ∀ x ∈ l, W64 x) (hs : W64 s) (h : shpB p l = true) :
    Calls Tryd.prog 35 #[.slice A p.length cA, .slice B l.length cB, .float .f64 s] W (ChP W p l s) := by
  have HS := Lib.hid hs
  have HP := Lib.hid hp
  have HL := Lib.hid hl
  have WP := Lib.hid wp
  have WL := Lib.hid wl
  have h2 := h
  unfold shpB at h2
  simp only [decide_eq_true_eq] at h2
  obtain ⟨a1, a2, a3⟩ := h2
  have SH := Lib.hid h
  have k1 : decide (p.length < 1) = false := decide_eq_false (by omega)
  have k2 : decide ((p.length : Int) < 1) = false := decide_eq_false (by omega)
  have k3 : decide (64 < p.length) = false := decide_eq_false (by omega)
  have k4 : decide ((64 : Int) < (p.length : Int)) = false := decide_eq_false (by omega)
  have k5 : ((l.length : Int) != (p.length : Int) + 1) = false := by simp; omega
  have k6 : IntKind.i64.wrap ((p.length : Int) + 1) = (p.length : Int) + 1 := by rw [IntKind.wrap_i64]; omega
  have HA3 := Lib.hid a3
  have hl65 : l.length ≤ 65 := by omega
  clear hp hl wp wl hs h a3
  go_enter Tryd.func35, Tryd.ntmps35
  go_upto_region 4 with (fail)
  go_cut [9] (fun v9 wx => v9 = .bool (finB s) ∧ Hid (CW W wx))
  case first =>
    cases hf : finB s
    · have s0 := nofin_sub HS.out hf
      have S0 := Lib.hid s0
      have HF := Lib.hid hf
      clear s0 hf
      go_wp2_with (first
        | (refine wp_arith .f64 s s rfl rfl rfl ?_; intro r n hr; rw [S0.out] at hr; have t0 := nan_eq hr.1 hr.2; clear hr))
      go_meet
      exact ⟨by rw [HF.out], Lib.hid ⟨by repeat' (first | (with_reducible exact Below.refl _ _) | (with_reducible refine bl_alloc ?_ _) | (with_reducible refine bl_drewN ?_ _) | (with_reducible refine bl_drew ?_) | (with_reducible refine bl_set ?_ _ (by simp))), by first | exact kb_new (Below.refl _ _) | exact kb_new (bl_drewN (Below.refl _ _) _)⟩⟩
    · have s0 := fin_sub HS.out hf
      have z0 : (FloatKind.f64.format.order 0 0 == some .eq) = true := by decide
      have HF := Lib.hid hf
      clear hf
      go_wp2
      go_meet
      exact ⟨by rw [HF.out], Lib.hid ⟨by repeat' (first | (with_reducible exact Below.refl _ _) | (with_reducible refine bl_alloc ?_ _) | (with_reducible refine bl_drewN ?_ _) | (with_reducible refine bl_drew ?_) | (with_reducible refine bl_set ?_ _ (by simp))), by first | exact kb_new (Below.refl _ _) | exact kb_new (bl_drewN (Below.refl _ _) _)⟩⟩
  case rest =>
    obtain ⟨rfl, hcw⟩ := hcut
    obtain ⟨f0, hf0⟩ : ∃ b, finB s = b := ⟨_, rfl⟩
    have HF0 := Lib.hid hf0
    rw [hf0]
    clear hf0
    go_upto_region 5 with (fail)
    go_cut [10] (fun v10 wx => v10 = .bool (pshB s) ∧ Hid (CW W wx))
    case first =>
      have t1 := t_ge HS.out (w_const (by decide) : W64 0)
      have t2 := t_le HS.out (w_const (by decide) : W64 4877398396442247168)
      rw [show isn 0 = false by decide, show plc 0 = 0 by decide] at t1
      rw [show isn 4877398396442247168 = false by decide, show plc 4877398396442247168 = 4877398396442247168 by decide] at t2
      have T : Hid ((FloatKind.f64.format.order s 0 == some .gt || FloatKind.f64.format.order s 0 == some .eq) = (!isn s && decide (0 ≤ plc s))) := Lib.hid (by rw [t1]; simp)
      have T2 : Hid ((FloatKind.f64.format.order s 4877398396442247168 == some .lt || FloatKind.f64.format.order s 4877398396442247168 == some .eq) = (!isn s && decide (plc s ≤ 4877398396442247168))) := Lib.hid (by rw [t2]; simp)
      have PB : Hid (pshB s = ((!isn s && decide (0 ≤ plc s)) && (!isn s && decide (plc s ≤ 4877398396442247168)))) := Lib.hid (by unfold pshB; cases isn s <;> simp)
      clear t1 t2
      obtain ⟨u, hu⟩ : ∃ u, (!isn s && decide (0 ≤ plc s)) = u := ⟨_, rfl⟩
      obtain ⟨v, hv⟩ : ∃ v, (!isn s && decide (plc s ≤ 4877398396442247168)) = v := ⟨_, rfl⟩
      rw [hu] at T PB
      rw [hv] at T2 PB
      have t1 := T.out
      have t2 := T2.out
      clear hu hv T T2
      cases u <;> cases v
      all_goals
        go_wp2_with (first
          | (go_at_call 25; (with_reducible (first | refine (t60_c _).mono ?_ | refine (t60n_c _).mono ?_)); rintro e w7 ⟨rfl, rfl⟩))
        go_meet
        exact ⟨by rw [PB.out]; rfl, hcw⟩
    case rest =>
      obtain ⟨rfl, hcw2⟩ := hcut
      obtain ⟨g0, hg0⟩ : ∃ b, pshB s = b := ⟨_, rfl⟩
      have HG0 := Lib.hid hg0
      rw [hg0]
      clear hg0 hcw
      go_wp2
      go_loopw [9, 10, 11] (fun v9 v10 v11 wr => ∃ (k : Nat) (F G : Bool), v9 = .bool F ∧ v10 = .bool G ∧ v11 = .int .i64 k ∧ k ≤ p.length + 1 ∧ Hid (F = fj p l s k ∧ G = gj p l s k ∧ CW W wr)) (fun _ _ v _ => p.length + 1 - (intOf v).toNat)
      case atStart => exact ⟨0, _, _, rfl, rfl, rfl, by omega, Lib.hid ⟨by unfold fj; rw [HF0.out]; simp, by unfold gj; rw [HG0.out]; simp, hcw2.out⟩⟩
      case round =>
        obtain ⟨k, F, G, rfl, rfl, rfl, hk, hq⟩ := hrel
        clear hcw2
        by_cases hle : k ≤ p.length
        · have l1 : decide (k ≤ p.length) = true := decide_eq_true hle
          have hlt : k < l.length := by have := HA3.out; omega
          obtain ⟨bd, hB, d0⟩ := HL.out.at hlt
          subst hB
          have m0 := cb hq.out.2.2.b d0
          have HX := Lib.hid (WL.out _ (List.getElem_mem hlt))
          have j0 : (0 : Int) ≤ (k : Int) := by omega
          have j1 : (k : Int) < (l.length : Int) := by omega
          have j2 : IntKind.i64.wrap ((k : Int) + 1) = (k : Int) + 1 := by rw [IntKind.wrap_i64]; omega
          have FL : Hid ((l.take (k + 1)).all finB = ((l.take k).all finB && finB l[k])) := Lib.hid (all_snoc hlt)
          have GL : Hid ((l.take (k + 1)).all btwB = ((l.take k).all btwB && btwB l[k])) := Lib.hid (all_snoc hlt)
          obtain ⟨x, hx⟩ : ∃ x, l[k] = x := ⟨_, rfl⟩
          rw [hx] at m0 HX FL GL
          have HF := Lib.hid hq.out.1
          have HG := Lib.hid hq.out.2.1
          have HC := Lib.hid hq.out.2.2
          have HK := Lib.hid hk
          clear d0 hx hlt hq hk
          go_upto_region 10 with (fail)
          go_cut [9] from 45 to 96 (fun v9 wx => v9 = .bool (F && finB x) ∧ Hid (CW W wx))
          case first =>
            cases F
            · go_wp2
              go_meet
              exact ⟨rfl, HC⟩
            · cases hf : finB x
              · have s0 := nofin_sub HX.out hf
                have S0 := Lib.hid s0
                have HE := Lib.hid hf
                clear s0 hf
                obtain ⟨r, n, hr, re⟩ := (fun (w : World) (_ : CW W w) => run_arith (P := Tryd.prog) .sub 25 .f64 x x w rfl) _ HC.out
                rw [S0.out] at hr
                have t0 := nan_eq hr.1 hr.2
                clear hr
                go_wp2
                go_meet
                exact ⟨by rw [HE.out]; rfl, Lib.hid (HC.out.drewN _)⟩
              · have s0 := fin_sub HX.out hf
                have z0 : (FloatKind.f64.format.order 0 0 == some .eq) = true := by decide
                have HE := Lib.hid hf
                clear hf
                go_wp2
                go_meet
                exact ⟨by rw [HE.out]; rfl, HC⟩
          case rest =>
            obtain ⟨rfl, HC2⟩ := hcut
            obtain ⟨F1, hF1⟩ : ∃ b, (F && finB x) = b := ⟨_, rfl⟩
            have HF1 := Lib.hid hF1
            rw [hF1]
            clear hF1
            go_upto_region 11 with (fail)
            go_cut [10] from 45 to 96 (fun v10 wx => v10 = .bool (G && btwB x) ∧ Hid (CW W wx))
            case first =>
              have t1 := t_ge HX.out (w_const (by decide) : W64 4336966441157787648)
              have t2 := t_le HX.out (w_const (by decide) : W64 4877398396442247168)
              rw [show isn 4336966441157787648 = false by decide, show plc 4336966441157787648 = 4336966441157787648 by decide] at t1
              rw [show isn 4877398396442247168 = false by decide, show plc 4877398396442247168 = 4877398396442247168 by decide] at t2
              have T : Hid ((FloatKind.f64.format.order x 4336966441157787648 == some .gt || FloatKind.f64.format.order x 4336966441157787648 == some .eq) = (!isn x && decide (4336966441157787648 ≤ plc x))) := Lib.hid (by rw [t1]; simp)
              have T2 : Hid ((FloatKind.f64.format.order x 4877398396442247168 == some .lt || FloatKind.f64.format.order x 4877398396442247168 == some .eq) = (!isn x && decide (plc x ≤ 4877398396442247168))) := Lib.hid (by rw [t2]; simp)
              have PB : Hid (btwB x = ((!isn x && decide (4336966441157787648 ≤ plc x)) && (!isn x && decide (plc x ≤ 4877398396442247168)))) := Lib.hid (by unfold btwB; cases isn x <;> simp)
              clear t1 t2
              obtain ⟨u, hu⟩ : ∃ u, (!isn x && decide (4336966441157787648 ≤ plc x)) = u := ⟨_, rfl⟩
              obtain ⟨v, hv⟩ : ∃ v, (!isn x && decide (plc x ≤ 4877398396442247168)) = v := ⟨_, rfl⟩
              rw [hu] at T PB
              rw [hv] at T2 PB
              have t1 := T.out
              have t2 := T2.out
              clear hu hv T T2
              cases G <;> cases u <;> cases v
              all_goals
                go_wp2_with (first
                  | (go_at_call 25; (with_reducible (first | refine (t60_c _).mono ?_ | refine (t60n_c _).mono ?_)); rintro e w7 ⟨rfl, rfl⟩))
                go_meet
                exact ⟨by rw [PB.out]; rfl, HC2⟩
            case rest =>
              obtain ⟨rfl, HC3⟩ := hcut
              obtain ⟨G1, hG1⟩ : ∃ b, (G && btwB x) = b := ⟨_, rfl⟩
              have HG1 := Lib.hid hG1
              rw [hG1]
              clear hG1
              by_cases hlp : k < p.length
              · have l2 : decide (k < p.length) = true := decide_eq_true hlp
                obtain ⟨ad, hA, d0⟩ := HP.out.at hlp
                subst hA
                have m1 := cb HC3.out.b d0
                have HY := Lib.hid (WP.out _ (List.getElem_mem hlp))
                have j3 : (k : Int) < (p.length : Int) := by omega
                have FP : Hid ((p.take (k + 1)).all finB = ((p.take k).all finB && finB p[k])) := Lib.hid (all_snoc hlp)
                have GP : Hid ((p.take (k + 1)).all btwB = ((p.take k).all btwB && btwB p[k])) := Lib.hid (all_snoc hlp)
                obtain ⟨y, hy⟩ : ∃ y, p[k] = y := ⟨_, rfl⟩
                rw [hy] at m1 HY FP GP
                have GE : Hid (gj p l s (k + 1) = ((gj p l s k && btwB x) && btwB y)) := Lib.hid (by unfold gj; rw [GL.out, GP.out, and3])
                have FE : Hid (fj p l s (k + 1) = ((fj p l s k && finB x) && finB y)) := Lib.hid (by unfold fj; rw [FL.out, FP.out, and3])
                have HLP := Lib.hid hlp
                clear d0 hy hlp hle m0
                go_upto_region 14 with (fail)
                go_cut [9] from 45 to 96 (fun v9 wx => v9 = .bool (F1 && finB y) ∧ Hid (CW W wx))
                case first =>
                  cases F1
                  · go_wp2
                    go_meet
                    exact ⟨rfl, HC3⟩
                  · cases hf : finB y
                    · have s0 := nofin_sub HY.out hf
                      have S0 := Lib.hid s0
                      have HE := Lib.hid hf
                      clear s0 hf
                      obtain ⟨r, n, hr, re⟩ := (fun (w : World) (_ : CW W w) => run_arith (P := Tryd.prog) .sub 25 .f64 y y w rfl) _ HC3.out
                      rw [S0.out] at hr
                      have t0 := nan_eq hr.1 hr.2
                      clear hr
                      go_wp2
                      go_meet
                      exact ⟨by rw [HE.out]; rfl, Lib.hid (HC3.out.drewN _)⟩
                    · have s0 := fin_sub HY.out hf
                      have z0 : (FloatKind.f64.format.order 0 0 == some .eq) = true := by decide
                      have HE := Lib.hid hf
                      clear hf
                      go_wp2
                      go_meet
                      exact ⟨by rw [HE.out]; rfl, HC3⟩
                case rest =>
                  obtain ⟨rfl, HC4⟩ := hcut
                  obtain ⟨F2, hF2⟩ : ∃ b, (F1 && finB y) = b := ⟨_, rfl⟩
                  have HF2 := Lib.hid hF2
                  rw [hF2]
                  clear hF2
                  go_upto_region 15 with (fail)
                  have t1 := t_ge HY.out (w_const (by decide) : W64 4336966441157787648)
                  have t2 := t_le HY.out (w_const (by decide) : W64 4877398396442247168)
                  rw [show isn 4336966441157787648 = false by decide, show plc 4336966441157787648 = 4336966441157787648 by decide] at t1
                  rw [show isn 4877398396442247168 = false by decide, show plc 4877398396442247168 = 4877398396442247168 by decide] at t2
                  have T : Hid ((FloatKind.f64.format.order y 4336966441157787648 == some .gt || FloatKind.f64.format.order y 4336966441157787648 == some .eq) = (!isn y && decide (4336966441157787648 ≤ plc y))) := Lib.hid (by rw [t1]; simp)
                  have T2 : Hid ((FloatKind.f64.format.order y 4877398396442247168 == some .lt || FloatKind.f64.format.order y 4877398396442247168 == some .eq) = (!isn y && decide (plc y ≤ 4877398396442247168))) := Lib.hid (by rw [t2]; simp)
                  have PB : Hid (btwB y = ((!isn y && decide (4336966441157787648 ≤ plc y)) && (!isn y && decide (plc y ≤ 4877398396442247168)))) := Lib.hid (by unfold btwB; cases isn y <;> simp)
                  clear t1 t2
                  obtain ⟨u, hu⟩ : ∃ u, (!isn y && decide (4336966441157787648 ≤ plc y)) = u := ⟨_, rfl⟩
                  obtain ⟨v, hv⟩ : ∃ v, (!isn y && decide (plc y ≤ 4877398396442247168)) = v := ⟨_, rfl⟩
                  rw [hu] at T PB
                  rw [hv] at T2 PB
                  have t1 := T.out
                  have t2 := T2.out
                  clear hu hv T T2
                  cases G1 <;> cases u <;> cases v
                  all_goals
                    go_wp2_with (first
                      | (go_at_call 25; (with_reducible (first | refine (t60_c _).mono ?_ | refine (t60n_c _).mono ?_)); rintro e w7 ⟨rfl, rfl⟩))
                    go_roundw
                    case rel => exact ⟨k + 1, F2, _, rfl, rfl, by go_num, by have := HLP.out; omega, Lib.hid ⟨by rw [FE.out, ← HF.out, HF1.out, HF2.out], by rw [GE.out, ← HG.out, HG1.out, PB.out]; rfl, HC4.out⟩⟩
                    case measure => have := HLP.out; simp [intOf]; omega
              · have l2 : decide (k < p.length) = false := decide_eq_false hlp
                have tp : p.take (k + 1) = p.take k := by rw [List.take_of_length_le (by omega), List.take_of_length_le (by omega)]
                have TP := Lib.hid tp
                have HLP := Lib.hid hle
                clear tp hlp hle m0
                go_wp2
                go_roundw
                case rel => exact ⟨k + 1, F1, G1, rfl, rfl, by go_num, by have := HLP.out; omega, Lib.hid ⟨by unfold fj; rw [FL.out, TP.out, and3', ← HF1.out, HF.out]; rfl, by unfold gj; rw [GL.out, TP.out, and3', ← HG1.out, HG.out]; rfl, HC3.out⟩⟩
                case measure => have := HLP.out; simp [intOf]; omega
        · have l1 : decide (k ≤ p.length) = false := decide_eq_false hle
          have b2 := kb_cell hq.out.2.2.r (i := 0) rfl
          have b3 := kb_cell hq.out.2.2.r (i := 1) rfl
          have b4 := kb_frozen hq.out.2.2.r 0
          have b5 := kb_frozen hq.out.2.2.r 1
          have tp : p.take k = p := List.take_of_length_le (by omega)
          have tl : l.take k = l := List.take_of_length_le (by have := HA3.out; omega)
          have fF : F = cfin p l s := by rw [hq.out.1]; unfold fj cfin; rw [tp, tl]
          have gG : G = cgood p l s := by rw [hq.out.2.1]; unfold gj cgood; rw [tp, tl]
          have CWH := Lib.hid hq.out.2.2
          have HF := Lib.hid fF
          have HG := Lib.hid gG
          have z2 := heap_set (heap_set hq.out.2.2.r 0 (.slice none 0 0)) 1 (.slice none 0 0)
          have Z0 := Lib.hid (kb_cell z2 (i := 0) (v := .slice none 0 0) rfl)
          have Z1 := Lib.hid (kb_cell z2 (i := 1) (v := .slice none 0 0) rfl)
          clear fF gG hq z2 hle tp tl hk
          cases F
          · have ce : chordE p l s = 5 := by unfold chordE; rw [if_pos SH.out, if_neg (by rw [← HF.out]; simp)]
            have CE := Lib.hid ce
            clear ce
            go_wp2
            refine bodyPost_ret (v := .tuple #[.agg #[.slice none 0 0, .slice none 0 0], .int .i64 5]) (by simp [results, Tryd.results35, go_sem, Z0.out, Z1.out]) rfl ?_
            have := ChP.none_ (W := W) (p := p) (l := l) (s := s) (w' := (wr.setCell ⟨W.heap.size, 0, none⟩ (.slice none 0 0)).setCell ⟨W.heap.size, 1, none⟩ (.slice none 0 0)) (by rw [CE.out]; decide) (((CWH.out.b).setCell (p := ⟨W.heap.size, 0, none⟩) (Nat.le_refl _) _).setCell (p := ⟨W.heap.size, 1, none⟩) (Nat.le_refl _) _)
            rw [CE.out] at this
            exact this
          · cases G
            · have ce : chordE p l s = 2 := by unfold chordE; rw [if_pos SH.out, if_pos HF.out.symm, if_neg (by rw [← HG.out]; simp)]
              have CE := Lib.hid ce
              clear ce
              go_wp2
              refine bodyPost_ret (v := .tuple #[.agg #[.slice none 0 0, .slice none 0 0], .int .i64 2]) (by simp [results, Tryd.results35, go_sem, Z0.out, Z1.out]) rfl ?_
              have := ChP.none_ (W := W) (p := p) (l := l) (s := s) (w' := (wr.setCell ⟨W.heap.size, 0, none⟩ (.slice none 0 0)).setCell ⟨W.heap.size, 1, none⟩ (.slice none 0 0)) (by rw [CE.out]; decide) (((CWH.out.b).setCell (p := ⟨W.heap.size, 0, none⟩) (Nat.le_refl _) _).setCell (p := ⟨W.heap.size, 1, none⟩) (Nat.le_refl _) _)
              rw [CE.out] at this
              exact this
            · have ce : chordE p l s = 0 := by unfold chordE; rw [if_pos SH.out, if_pos HF.out.symm, if_pos HG.out.symm]
              have gd := HG.out.symm
              unfold cgood at gd
              simp only [Bool.and_eq_true, List.all_eq_true] at gd
              have SP := Lib.hid (psh_of HS.out gd.1.1)
              have BP : Hid (∀ x ∈ p, Bt x) := Lib.hid (fun x hx => btw_of (WP.out x hx) (gd.1.2 x hx))
              have BL : Hid (∀ x ∈ l, Bt x) := Lib.hid (fun x hx => btw_of (WL.out x hx) (gd.2 x hx))
              have CE := Lib.hid ce
              have hsz : W.heap.size < wr.heap.size := kb_lt CWH.out.r
              have H0 : Hid (HW W (wr.alloc (.cells #[.slice none 0 0, .slice none 0 0] 24)) wr.heap.size (.slice none 0 0) (.slice none 0 0) [] []) := Lib.hid ⟨CWH.out.b.alloc CWH.out.b.size _, kb_alloc CWH.out.r, kb_new (Below.refl _ _), World.ownsRow_nil _ _ _ _, World.ownsRow_nil _ _ _ _, fun b hb => (by simp [Value.ownBlock] at hb), hsz⟩
              have HSZ := Lib.hid hsz
              clear ce gd CWH b2 b3 b4 b5 hsz
              obtain ⟨wq, hwq⟩ : ∃ w, w = wr := ⟨_, rfl⟩
              subst hwq
              go_wp2
              go_loopw [14] (fun v14 w2 => ∃ (k : Nat) (vD vO : Value), v14 = .int .i64 k ∧ k ≤ p.length ∧ Hid (HW W w2 wq.heap.size vD vO (chDk p l s k) (chOk l s (min k (p.length - 1))))) (fun v _ => p.length - (intOf v).toNat)
              case atStart => exact ⟨0, _, _, rfl, Nat.zero_le _, Lib.hid (by rw [Nat.zero_min]; exact H0.out)⟩
              case round =>
                obtain ⟨k, vD, vO, rfl, hk, hq⟩ := hrel
                clear H0
                by_cases hlt : k < p.length
                · have l1 : decide (k < p.length) = true := decide_eq_true hlt
                  have hl0 : k < l.length := by have := HA3.out; omega
                  have hl1 : k + 1 < l.length := by have := HA3.out; omega
                  obtain ⟨ad, hA, hc⟩ := HP.out.at hlt
                  obtain ⟨bd, hB, hc1⟩ := HL.out.at hl0
                  obtain ⟨bd', hB', hc2⟩ := HL.out.at hl1
                  subst hA
                  subst hB
                  injection hB' with hB'
                  subst hB'
                  have m0 : wr.cell? (ad.add k) = some (.float .f64 p[k]) := (hq.out.b.cell (World.block_lt_of_cell? W _ hc)).trans hc
                  have m1 : wr.cell? (bd.add k) = some (.float .f64 l[k]) := (hq.out.b.cell (World.block_lt_of_cell? W _ hc1)).trans hc1
                  have m2 : wr.cell? ⟨bd.block, bd.off + (k + 1), none⟩ = some (.float .f64 l[k + 1]) := by
                    have := (hq.out.b.cell (World.block_lt_of_cell? W _ hc2)).trans hc2
                    simpa [Addr.add] using this
                  have c0 := kb_cell hq.out.q (i := 0) (v := vD) rfl
                  have c1 := kb_cell hq.out.q (i := 1) (v := vO) rfl
                  have f0 := kb_frozen hq.out.q 0
                  have f1 := kb_frozen hq.out.q 1
                  obtain ⟨x1, x2, x3, _⟩ := quo_ok SP.out (BL.out _ (List.getElem_mem hl0))
                  obtain ⟨y1, y2, y3, _⟩ := quo_ok SP.out (BL.out _ (List.getElem_mem hl1))
                  obtain ⟨z1, z2, z3⟩ := add_ok x2 y2 x3 y3
                  obtain ⟨t1, t2, t3⟩ := dif_ok (BP.out _ (List.getElem_mem hlt)) z2 z3
                  obtain ⟨P, hP⟩ : ∃ P, fdiv s l[k] = P := ⟨_, rfl⟩
                  obtain ⟨Q, hQ⟩ : ∃ Q, fdiv s l[k + 1] = Q := ⟨_, rfl⟩
                  obtain ⟨R, hR⟩ : ∃ R, fadd P Q = R := ⟨_, rfl⟩
                  obtain ⟨T, hT⟩ : ∃ T, fsub p[k] R = T := ⟨_, rfl⟩
                  have dk : chDk p l s (k + 1) = chDk p l s k ++ [T] := by
                    rw [chDk_succ, List.getD_eq_getElem?_getD, List.getD_eq_getElem?_getD, List.getD_eq_getElem?_getD, List.getElem?_eq_getElem hlt, List.getElem?_eq_getElem hl0, List.getElem?_eq_getElem hl1]
                    show _ ++ [fsub p[k] (fadd (fdiv s l[k]) (fdiv s l[k + 1]))] = _
                    rw [hP, hQ, hR, hT]
                  have ok_ : chOk l s (k + 1) = chOk l s k ++ [Q] := by
                    rw [chOk_succ, List.getD_eq_getElem?_getD, List.getElem?_eq_getElem hl1]
                    show _ ++ [fdiv s l[k + 1]] = _
                    rw [hQ]
                  rw [hP] at x1
                  rw [hQ] at y1
                  rw [hP, hQ, hR] at z1
                  rw [hP, hQ, hR, hT] at t1
                  have s1 : ∀ t w, (binOp .quo t (.float .f64 s) (.float .f64 l[k])).run Tryd.prog w = .ok (.float .f64 P) w := fun t w => run_float_arith w .quo t .f64 _ _ P x1
                  have s2 : ∀ t w, (binOp .quo t (.float .f64 s) (.float .f64 l[k + 1])).run Tryd.prog w = .ok (.float .f64 Q) w := fun t w => run_float_arith w .quo t .f64 _ _ Q y1
                  have s3 : ∀ t w, (binOp .add t (.float .f64 P) (.float .f64 Q)).run Tryd.prog w = .ok (.float .f64 R) w := fun t w => run_float_arith w .add t .f64 _ _ R z1
                  have s4 : ∀ t w, (binOp .sub t (.float .f64 p[k]) (.float .f64 R)).run Tryd.prog w = .ok (.float .f64 T) w := fun t w => run_float_arith w .sub t .f64 _ _ T t1
                  have j0 : (0 : Int) ≤ (k : Int) := by omega
                  have j1 : (k : Int) < (l.length : Int) := by omega
                  have j2 : (k : Int) + 1 < (l.length : Int) := by omega
                  have j3 : (0 : Int) ≤ (k : Int) + 1 := by omega
                  have j4 : IntKind.i64.wrap ((k : Int) + 1) = (k : Int) + 1 := by rw [IntKind.wrap_i64]; omega
                  have j5 : ((k : Int) + 1).toNat = k + 1 := by omega
                  have DK := Lib.hid dk
                  have OK := Lib.hid ok_
                  have hm : min k (p.length - 1) = k := by omega
                  have hq1 := hq.out
                  rw [hm] at hq1
                  have H2 := Lib.hid hq1
                  clear hm hq1
                  have len1 : Hid (∀ n, (chDk p l s n).length = n) := Lib.hid (fun n => chDk_len p l s n)
                  have len2 : Hid (∀ n, (chOk l s n).length = n) := Lib.hid (fun n => chOk_len l s n)
                  have J4 := Lib.hid j4
                  clear hq hc hc1 hc2 x1 x2 x3 y1 y2 y3 z1 z2 z3 t1 t2 t3 hP hQ hR hT dk ok_
                  go_wp2
                  refine wp_region_G (g := 9) (S := fun w' => w'.cell? ⟨wq.heap.size, 0, none⟩ = some vD ∧ w'.cell? (ad.add k) = some (.float .f64 p[k])) (by kernel_rfl) ?_
                  obtain ⟨wd, hwd⟩ : ∃ v, wr.drew = v := ⟨_, rfl⟩
                  have HD : Hid (HW W wd wq.heap.size vD vO (chDk p l s k) (chOk l s k)) := Lib.hid (by rw [← hwd]; exact H2.out.drew)
                  have hS : wd.cell? ⟨wq.heap.size, 0, none⟩ = some vD ∧ wd.cell? (ad.add k) = some (.float .f64 p[k]) := ⟨kb_cell HD.out.q (i := 0) rfl, by rw [← hwd]; exact m0⟩
                  rw [hwd]
                  clear hwd m0 m1 m2 c0 c1 f0 f1
                  (refine wpG_take (i := 0) (v := ?_) rfl rfl (by kernel_rfl) (by kernel_rfl) (by kernel_rfl) (fun _ _ _ h => h) (Or.inl ⟨by rfl, fun w => ?_⟩) (Or.inr hS) ?_; rotate_left; focus (go_simp; first | done | with_reducible rfl | exact rfl)); (try simp only [Act.put, List.setIfInBounds_toArray, List.set_cons_zero, List.set_cons_succ, List.getElem_toArray, List.getElem_cons_zero, List.getElem_cons_succ])
                  (refine wpG_ldC (i := 1) [9] (v := ?_) rfl rfl (by kernel_rfl) (by kernel_rfl) (by kernel_rfl) (by kernel_rfl) (fun _ _ _ h => h) (Or.inl ⟨by rfl, ?_⟩) hS ?_; rotate_left; focus (intro w hSw; (try dsimp only at hSw); go_simp; first | done | with_reducible rfl | exact rfl)); (try simp only [Act.put, List.setIfInBounds_toArray, List.set_cons_zero, List.set_cons_succ, List.getElem_toArray, List.getElem_cons_zero, List.getElem_cons_succ])
                  (refine wpG_take (i := 2) (v := ?_) rfl rfl (by kernel_rfl) (by kernel_rfl) (by kernel_rfl) (fun _ _ _ h => h) (Or.inl ⟨by rfl, fun w => ?_⟩) (Or.inr hS) ?_; rotate_left; focus (go_simp; first | done | with_reducible rfl | exact rfl)); (try simp only [Act.put, List.setIfInBounds_toArray, List.set_cons_zero, List.set_cons_succ, List.getElem_toArray, List.getElem_cons_zero, List.getElem_cons_succ]); (refine wpG_take (i := 3) (v := ?_) rfl rfl (by kernel_rfl) (by kernel_rfl) (by kernel_rfl) (fun _ _ _ h => h) (Or.inl ⟨by rfl, fun w => ?_⟩) (Or.inr hS) ?_; rotate_left; focus (go_simp; first | done | with_reducible rfl | exact rfl)); (try simp only [Act.put, List.setIfInBounds_toArray, List.set_cons_zero, List.set_cons_succ, List.getElem_toArray, List.getElem_cons_zero, List.getElem_cons_succ]); (refine wpG_take (i := 4) (v := ?_) rfl rfl (by kernel_rfl) (by kernel_rfl) (by kernel_rfl) (fun _ _ _ h => h) (Or.inl ⟨by rfl, fun w => ?_⟩) (Or.inr hS) ?_; rotate_left; focus (go_simp; first | done | with_reducible rfl | exact rfl)); (try simp only [Act.put, List.setIfInBounds_toArray, List.set_cons_zero, List.set_cons_succ, List.getElem_toArray, List.getElem_cons_zero, List.getElem_cons_succ])
                  (refine wpG_ldC (i := 5) [7, 8, 9] (v := ?_) rfl rfl (by kernel_rfl) (by kernel_rfl) (by kernel_rfl) (by kernel_rfl) (fun _ _ _ h => h) (Or.inl ⟨by rfl, ?_⟩) hS ?_; rotate_left; focus (intro w hSw; (try dsimp only at hSw); go_simp; first | done | with_reducible rfl | exact rfl)); (try simp only [Act.put, List.setIfInBounds_toArray, List.set_cons_zero, List.set_cons_succ, List.getElem_toArray, List.getElem_cons_zero, List.getElem_cons_succ])
                  (refine wpG_take (i := 6) (v := ?_) rfl rfl (by kernel_rfl) (by kernel_rfl) (by kernel_rfl) (fun _ _ _ h => h) (Or.inl ⟨by rfl, fun w => ?_⟩) (Or.inr hS) ?_; rotate_left; focus (go_simp; first | done | with_reducible rfl | exact rfl)); (try simp only [Act.put, List.setIfInBounds_toArray, List.set_cons_zero, List.set_cons_succ, List.getElem_toArray, List.getElem_cons_zero, List.getElem_cons_succ]); (refine wpG_take (i := 7) (v := ?_) rfl rfl (by kernel_rfl) (by kernel_rfl) (by kernel_rfl) (fun _ _ _ h => h) (Or.inl ⟨by rfl, fun w => ?_⟩) (Or.inr hS) ?_; rotate_left; focus (go_simp; first | done | with_reducible rfl | exact rfl)); (try simp only [Act.put, List.setIfInBounds_toArray, List.set_cons_zero, List.set_cons_succ, List.getElem_toArray, List.getElem_cons_zero, List.getElem_cons_succ])
                  refine wpG_one (i := 8) (by kernel_rfl) rfl (fun K hK => ?_); have HK := Lib.hid hK; clear hK
                  go_simp
                  refine HK.out _ _ (Or.inr ⟨kb_cellA hS.1 _, kb_cellA hS.2 _⟩) ?_
                  clear HK K
                  (try simp only [Act.put, List.setIfInBounds_toArray, List.set_cons_zero, List.set_cons_succ, List.getElem_toArray, List.getElem_cons_zero, List.getElem_cons_succ])
                  refine wpG_one (i := 9) (by kernel_rfl) rfl (fun K hK => ?_); have HK := Lib.hid hK; clear hK
                  refine step_append_cells (w0 := W) W.heap.size rfl (.tmp 125) (.tmp 132) 22 25 (.float .f64 0) 1 8 rfl Tryd.underlying22 f_info rfl (by decide) (by decide) vD (chDk p l s k).length ((chDk p l s k).map (Value.float .f64)) [.float .f64 T] rfl rfl rfl (fun u hu => by rw [List.mem_singleton.1 hu]; rfl) HD.out.d HD.out.b HD.out.b.size (by rw [len1.out]; omega) ?_
                  intro v1 w1 hown hb hg hat
                  obtain ⟨e1, e2⟩ := HD.out.appD hown hb hg hat
                  obtain ⟨A1, n1, ev, _, _⟩ := ow_sl e2.d
                  rw [List.length_append, len1.out, List.length_singleton] at ev
                  subst ev
                  have H3 := Lib.hid e2
                  have g0 := kb_cell e1 (i := 0) (v := vD) rfl
                  have g2 := kb_frozen e1 0
                  refine HK.out _ _ (Or.inl (by kernel_rfl)) ?_
                  clear HK K hS HD hown hb hg hat e1 e2
                  (try simp only [Act.put, List.setIfInBounds_toArray, List.set_cons_zero, List.set_cons_succ, List.getElem_toArray, List.getElem_cons_zero, List.getElem_cons_succ])
                  (refine wpG_take (i := 10) (v := ?_) rfl rfl (by kernel_rfl) (by kernel_rfl) (by kernel_rfl) (fun _ _ _ h => h) (Or.inl ⟨by rfl, fun w => ?_⟩) (Or.inl (by kernel_rfl)) ?_; rotate_left; focus (go_simp; first | done | with_reducible rfl | exact rfl)); (try simp only [Act.put, List.setIfInBounds_toArray, List.set_cons_zero, List.set_cons_succ, List.getElem_toArray, List.getElem_cons_zero, List.getElem_cons_succ])
                  refine wpG_one (i := 11) (by kernel_rfl) rfl (fun K hK => ?_); have HK := Lib.hid hK; clear hK; go_simp; refine HK.out _ _ (Or.inl (by kernel_rfl)) ?_; clear HK K; (try simp only [Act.put, List.setIfInBounds_toArray, List.set_cons_zero, List.set_cons_succ, List.getElem_toArray, List.getElem_cons_zero, List.getElem_cons_succ])
                  refine wpG_done (by kernel_rfl) ?_ _
                  obtain ⟨w3, hw3⟩ : ∃ v, w1.setCell ⟨wq.heap.size, 0, none⟩ (.slice A1 (k + 1) n1) = v := ⟨_, rfl⟩
                  rw [hw3] at H3
                  simp only [hw3]
                  clear hw3 g0 g2
                  have c1 := kb_cell H3.out.q (i := 1) (v := vO) rfl
                  have f1 := kb_frozen H3.out.q 1
                  by_cases hlast : k + 1 < p.length
                  all_goals
                    have HLA := Lib.hid hlast
                    first
                      | have l2 : decide ((k : Int) + 1 < (p.length : Int)) = true := decide_eq_true (by omega)
                      | have l2 : decide ((k : Int) + 1 < (p.length : Int)) = false := decide_eq_false (by omega)
                    clear hlast
                    go_wp2_with (first
                      | (at_builtin; (refine print_append_cells (w0 := W) W.heap.size rfl (.tmp 140) (.tmp 142) 22 25 (.float .f64 0) 1 8 rfl Tryd.underlying22 f_info rfl (by decide) (by decide) vO (chOk l s k).length ((chOk l s k).map (Value.float .f64)) [.float .f64 Q] rfl rfl rfl (fun u hu => by rw [List.mem_singleton.1 hu]; rfl) H3.out.o H3.out.b H3.out.b.size (by rw [len2.out]; omega) ?_); intro v2 w2 hown hb hg hat
                         obtain ⟨e1, e2⟩ := H3.out.appO hown hb hg hat
                         obtain ⟨A2, n2, ev, _, _⟩ := ow_sl e2.o
                         rw [List.length_append, len2.out, List.length_singleton] at ev
                         subst ev
                         have H4 := Lib.hid e2
                         have g5 := kb_cell e1 (i := 1) (v := vO) rfl
                         have g6 := kb_frozen e1 1
                         clear hown hb hg hat e1 e2))
                    go_roundw
                    case rel =>
                      first
                        | exact ⟨k + 1, _, _, by go_num, by omega, Lib.hid (by rw [show min (k + 1) (p.length - 1) = k + 1 by have := HLA.out; omega, DK.out, OK.out]; exact H4.out)⟩
                        | exact ⟨k + 1, _, vO, by go_num, by omega, Lib.hid (by rw [show min (k + 1) (p.length - 1) = k by have := HLA.out; omega, DK.out]; exact H3.out)⟩
                        | ((repeat apply Exists.intro); exact ⟨⟨k + 1, _, _, by go_num, by omega, Lib.hid (by rw [show min (k + 1) (p.length - 1) = k + 1 by have := HLA.out; omega, DK.out, OK.out]; exact H4.out)⟩, rfl⟩)
                        | ((repeat apply Exists.intro); exact ⟨⟨k + 1, _, vO, by go_num, by omega, Lib.hid (by rw [show min (k + 1) (p.length - 1) = k by have := HLA.out; omega, DK.out]; exact H3.out)⟩, rfl⟩)
                    case measure => simp [intOf]; omega
                · have l1 : decide (k < p.length) = false := decide_eq_false hlt
                  obtain rfl : k = p.length := by omega
                  have hq1 := hq.out
                  rw [show min p.length (p.length - 1) = p.length - 1 by omega] at hq1
                  obtain ⟨AD, nD, eD, _, _⟩ := ow_sl hq1.d
                  obtain ⟨AO, nO, eO, _, _⟩ := ow_sl hq1.o
                  obtain ⟨mD, hmD⟩ : ∃ m, (chDk p l s p.length).length = m := ⟨_, rfl⟩
                  obtain ⟨mO, hmO⟩ : ∃ m, (chOk l s (p.length - 1)).length = m := ⟨_, rfl⟩
                  rw [hmD] at eD
                  rw [hmO] at eO
                  clear hmD hmO
                  subst eD
                  subst eO
                  have c0 := kb_cell hq1.q (i := 0) rfl
                  have c1 := kb_cell hq1.q (i := 1) rfl
                  have b2 := kb_cell hq1.r (i := 0) (v := .slice none 0 0) rfl
                  have b3 := kb_cell hq1.r (i := 1) (v := .slice none 0 0) rfl
                  have b4 := kb_frozen hq1.r 0
                  have b5 := kb_frozen hq1.r 1
                  have z2 := heap_set (heap_set hq1.r 0 (.slice AD mD nD)) 1 (.slice AO mO nO)
                  have Z0 := Lib.hid (kb_cell z2 (i := 0) rfl)
                  have Z1 := Lib.hid (kb_cell z2 (i := 1) rfl)
                  have H2 := Lib.hid hq1
                  clear hq hq1 z2
                  go_wp2
                  refine bodyPost_ret (v := .tuple #[.agg #[.slice AD mD nD, .slice AO mO nO], .int .i64 0]) (by simp [results, Tryd.results35, go_sem, Z0.out, Z1.out]) rfl ?_
                  have far : ∀ v : Value, ∀ L : List Nat, Ow wr W.heap.size v L → Ow ((wr.setCell ⟨W.heap.size, 0, none⟩ (.slice AD mD nD)).setCell ⟨W.heap.size, 1, none⟩ (.slice AO mO nO)) W.heap.size v L := fun v L h => own_move h (fun k hk => by
                    have ne : k ≠ W.heap.size := fun e => own_ne h H2.out.r f_ne (by rw [hk, e])
                    rw [Below.heap_setCell _ _ _ _ ne, Below.heap_setCell _ _ _ _ ne])
                  refine ⟨_, _, by rw [CE.out], ?_, ?_, ((H2.out.b).setCell (p := ⟨W.heap.size, 0, none⟩) (Nat.le_refl _) _).setCell (p := ⟨W.heap.size, 1, none⟩) (Nat.le_refl _) _⟩
                  · unfold chD; rw [if_pos CE.out]; exact far _ _ H2.out.d
                  · unfold chO; rw [if_pos CE.out]; exact far _ _ H2.out.o
theorem chordR_c (A B : Option Addr) (cA cB : Nat) (p l : List Nat) (s : Nat) (W : World) (hp : Fl W A p) (hl : Fl W B l) (wp : ∀ x ∈ p, W64 x) (wl : ∀ x ∈ l, W64 x) (hs : W64 s) :
    Calls Tryd.prog 35 #[.slice A p.length cA, .slice B l.length cB, .float .f64 s] W (ChP W p l s) := by
  cases h : shpB p l
  · exact chordR_no A B cA cB p l s W hp hl h
  · exact chordR_yes A B cA cB p l s W hp hl wp wl hs h
end Go.Proofs.YtaedkekjekbjmaaDoor

/- girderref17's within, Right, wrong: as sturm's. -/
namespace Go.Proofs.YtaedkekjekbjmaaDoor
open Go Go.RowKit Nv GFl Ieee
set_option maxRecDepth 100000
set_option linter.unusedSimpArgs false
attribute [local go_sem] run_f64bits run_f64frombits run_neg_f64
theorem t500_c (w : World) : Calls Tryd.prog 25 #[.int .i64 500] w fun e w' => e = .returned (.float .f64 6858982232485265408) ∧ w' = w := by
  have := pow2_c 500 (by decide) (by decide) w
  rwa [show tw ((1074 : Int) + 500).toNat = 6858982232485265408 by decide +kernel] at this
theorem t502_c (w : World) : Calls Tryd.prog 25 #[.int .i64 502] w fun e w' => e = .returned (.float .f64 6867989431740006400) ∧ w' = w := by
  have := pow2_c 502 (by decide) (by decide) w
  rwa [show tw ((1074 : Int) + 502).toNat = 6867989431740006400 by decide +kernel] at this
theorem within_c (x m : Nat) (hx : W64 x) (hm : decide (m ≤ 9214364837600034816) = true) (w : World) : Calls Tryd.prog 29 #[.float .f64 x, .float .f64 m] w fun e w' => e = .returned (.bool (decide (rg x ≤ m))) ∧ w' = w := by
  have hm := of_decide_eq_true hm
  have wm : W64 m := W64.mk (by omega)
  have rm : rg m = m := by rw [rg_eq]; omega
  have nm : neg m = false := by rw [neg_eq]; simp; omega
  have im : isn m = false := by rw [isn_eq, rm]; simp; omega
  have pm : plc m = m := by rw [plc_eq, nm, rm]; rfl
  have t1 := t_ge hx (fneg_w wm)
  have t2 := t_le hx wm
  rw [fneg_isn wm, im, fneg_plc wm, pm] at t1
  rw [im, pm] at t2
  have hv : decide (rg x ≤ m) = ((!isn x && decide (-(m : Int) ≤ plc x)) && (!isn x && decide (plc x ≤ (m : Int)))) := by
    have h1 := plc_natAbs x
    rw [isn_eq, Bool.eq_iff_iff]
    simp only [Bool.and_eq_true, decide_eq_true_eq, Bool.not_eq_true', decide_eq_false_iff_not]
    omega
  have T : Hid ((FloatKind.f64.format.order x (fneg m) == some .gt || FloatKind.f64.format.order x (fneg m) == some .eq) = (!isn x && decide (-(m : Int) ≤ plc x))) := Lib.hid (by rw [t1]; simp)
  have T2 : Hid ((FloatKind.f64.format.order x m == some .lt || FloatKind.f64.format.order x m == some .eq) = (!isn x && decide (plc x ≤ (m : Int)))) := Lib.hid (by rw [t2]; simp)
  have HV := Lib.hid hv
  clear t1 t2 hv hm wm rm nm im pm hx
  obtain ⟨u, hu⟩ : ∃ u, (!isn x && decide (-(m : Int) ≤ plc x)) = u := ⟨_, rfl⟩
  obtain ⟨v, hv⟩ : ∃ v, (!isn x && decide (plc x ≤ (m : Int))) = v := ⟨_, rfl⟩
  rw [hu] at T HV
  rw [hv] at T2 HV
  have t1 := T.out
  have t2 := T2.out
  clear hu hv T T2
  cases u <;> cases v
  all_goals
    go_enter Tryd.func29, Tryd.ntmps29
    go_wp2
    go_ret
    exact ⟨ret_bool HV.out.symm, rfl⟩
set_option maxHeartbeats 4000000 in
theorem rightR_c (A B : Option Addr) (cA cB : Nat) (d o : List Nat) (W : World) (hd : Fl W A d) (ho : Fl W B o) (wd : ∀ x ∈ d, W64 x) (wo : ∀ x ∈ o, W64 x) :
    Calls Tryd.prog 13 #[.agg #[.slice A d.length cA, .slice B o.length cB]] W fun e w' => e = .returned (.bool (rightB d o)) ∧ Below W.heap.size W w' := by
  have hdl := hd.2.1
  have hol := ho.2.1
  by_cases h1 : 1 ≤ d.length ∧ d.length ≤ 64 ∧ o.length + 1 = d.length
  · have HD := Lib.hid hd
    have HO := Lib.hid ho
    have WD := Lib.hid wd
    have WO := Lib.hid wo
    have RB : Hid (rightB d o = (d.all okF && o.all okF)) := Lib.hid (by unfold rightB; rw [decide_eq_true h1]; rfl)
    obtain ⟨a1, a2, a3⟩ := h1
    have k1 : decide (d.length < 1) = false := decide_eq_false (by omega)
    have k2 : decide (64 < d.length) = false := decide_eq_false (by omega)
    have k3 : ((o.length : Int) != (d.length : Int) - 1) = false := by simp; omega
    have k4 : decide ((d.length : Int) < 1) = false := decide_eq_false (by omega)
    have k5 : decide ((64 : Int) < (d.length : Int)) = false := decide_eq_false (by omega)
    have WI : Hid (∀ x w, W64 x → Calls Tryd.prog 29 #[.float .f64 x, .float .f64 6858982232485265408] w fun e w' => e = .returned (.bool (okF x)) ∧ w' = w) := Lib.hid (fun x w hx => within_c x 6858982232485265408 hx (by decide) w)
    clear hd ho wd wo
    go_enter Tryd.func13, Tryd.ntmps13
    go_wp2_with (first
      | (go_at_call 25; (with_reducible refine (t500_c _).mono ?_); rintro e w' ⟨rfl, hw⟩; obtain rfl := hw.symm; clear hw))
    go_loop [4] (fun v => ∃ j : Nat, v = .int .i64 j ∧ j ≤ d.length ∧ Hid ((d.take j).all okF = true ∧ (o.take j).all okF = true)) (fun v => d.length - (intOf v).toNat)
    case atStart => exact ⟨0, rfl, Nat.zero_le _, Lib.hid ⟨rfl, rfl⟩⟩
    case round =>
      obtain ⟨j, rfl, hj, ha⟩ := hrel
      by_cases hlt : j < d.length
      · obtain ⟨ad, hA, hc⟩ := HD.out.at hlt
        subst hA
        have hcell : (W.alloc (.cells #[.slice (some ad) d.length cA, .slice B o.length cB] 24)).cell? (ad.add j) = some (.float .f64 d[j]) := (((Below.refl W.heap.size W).alloc (Nat.le_refl _) _).cell (World.block_lt_of_cell? W _ hc)).trans hc
        have l1 : decide (j < d.length) = true := decide_eq_true hlt
        have AL := Lib.hid (allT (p := okF) hlt ha.out.1)
        have AN := Lib.hid (allN (p := okF) hlt)
        have WX := Lib.hid (fun w => WI.out d[j] w (WD.out _ (List.getElem_mem hlt)))
        have j0 : (0 : Int) ≤ (j : Int) := by omega
        have j1 : (j : Int) < (d.length : Int) := by omega
        have j2 : IntKind.i64.wrap ((j : Int) + 1) = (j : Int) + 1 := by rw [IntKind.wrap_i64]; omega
        obtain ⟨x, hx⟩ : ∃ x, d[j] = x := ⟨_, rfl⟩
        rw [hx] at hcell AL AN WX
        have A2 := Lib.hid ha.out.2
        clear hc hx ha
        cases hok : okF x
        · rw [hok] at WX
          have HOK := Lib.hid hok
          clear hok
          go_wp2_with (first
            | (go_at_call 29; (with_reducible refine (WX.out _).mono ?_); rintro e w' ⟨rfl, hw⟩; obtain rfl := hw.symm; clear hw))
          go_ret
          exact ⟨ret_bool (by rw [RB.out, AN.out HOK.out]; simp), (Below.refl _ _).alloc (Nat.le_refl _) _⟩
        · rw [hok] at WX
          have HOK := Lib.hid hok
          clear hok
          by_cases hlo : j < o.length
          · have l2 : decide (j < o.length) = true := decide_eq_true hlo
            obtain ⟨bd, hB, hc⟩ := HO.out.at hlo
            subst hB
            have hcell2 : (W.alloc (.cells #[.slice (some ad) d.length cA, .slice (some bd) o.length cB] 24)).cell? (bd.add j) = some (.float .f64 o[j]) := (((Below.refl W.heap.size W).alloc (Nat.le_refl _) _).cell (World.block_lt_of_cell? W _ hc)).trans hc
            have AL2 := Lib.hid (allT (p := okF) hlo A2.out)
            have AN2 := Lib.hid (allN (p := okF) hlo)
            have WY := Lib.hid (fun w => WI.out o[j] w (WO.out _ (List.getElem_mem hlo)))
            have j3 : (j : Int) < (o.length : Int) := by omega
            obtain ⟨y, hy⟩ : ∃ y, o[j] = y := ⟨_, rfl⟩
            rw [hy] at hcell2 AL2 AN2 WY
            clear hc hy
            cases hok2 : okF y
            · rw [hok2] at WY
              have HOK2 := Lib.hid hok2
              clear hok2
              go_wp2_with (first
                | (go_at_call 29; (with_reducible (first | refine (WX.out _).mono ?_ | refine (WY.out _).mono ?_)); rintro e w' ⟨rfl, hw⟩; obtain rfl := hw.symm; clear hw))
              go_ret
              exact ⟨ret_bool (by rw [RB.out, AN2.out HOK2.out]; simp), (Below.refl _ _).alloc (Nat.le_refl _) _⟩
            · rw [hok2] at WY
              have HOK2 := Lib.hid hok2
              clear hok2
              go_wp2_with (first
                | (go_at_call 29; (with_reducible (first | refine (WX.out _).mono ?_ | refine (WY.out _).mono ?_)); rintro e w' ⟨rfl, hw⟩; obtain rfl := hw.symm; clear hw))
              go_round
              case rel => exact ⟨j + 1, by go_num, by omega, Lib.hid ⟨AL.out HOK.out, AL2.out HOK2.out⟩⟩
              case measure => simp [intOf]; omega
          · have l2 : decide (j < o.length) = false := decide_eq_false hlo
            have e2 : (o.take (j + 1)).all okF = true := by rw [List.take_of_length_le (by omega)]; have := A2.out; rwa [List.take_of_length_le (by omega)] at this
            have E2 := Lib.hid e2
            clear e2
            go_wp2_with (first
              | (go_at_call 29; (with_reducible refine (WX.out _).mono ?_); rintro e w' ⟨rfl, hw⟩; obtain rfl := hw.symm; clear hw))
            go_round
            case rel => exact ⟨j + 1, by go_num, by omega, Lib.hid ⟨AL.out HOK.out, E2.out⟩⟩
            case measure => simp [intOf]; omega
      · have l1 : decide (j < d.length) = false := decide_eq_false hlt
        have e1 : d.all okF = true := by have := ha.out.1; rw [List.take_of_length_le (by omega)] at this; exact this
        have e2 : o.all okF = true := by have := ha.out.2; rw [List.take_of_length_le (by omega)] at this; exact this
        have E1 := Lib.hid e1
        have E2 := Lib.hid e2
        clear e1 e2 ha
        go_wp2
        go_ret
        exact ⟨ret_bool (by rw [RB.out, E1.out, E2.out]; rfl), (Below.refl _ _).alloc (Nat.le_refl _) _⟩
  · have RB : Hid (false = rightB d o) := Lib.hid (by unfold rightB; rw [decide_eq_false h1]; rfl)
    clear hd ho wd wo
    by_cases h2 : d.length < 1
    · have k1 : decide (d.length < 1) = true := decide_eq_true h2
      have k4 : decide ((d.length : Int) < 1) = true := decide_eq_true (by omega)
      clear h1
      go_enter Tryd.func13, Tryd.ntmps13
      go_wp2
      go_ret
      exact ⟨ret_bool RB.out, (Below.refl _ _).alloc (Nat.le_refl _) _⟩
    · have k1 : decide (d.length < 1) = false := decide_eq_false h2
      have k4 : decide ((d.length : Int) < 1) = false := decide_eq_false (by omega)
      by_cases h3 : 64 < d.length
      · have k2 : decide (64 < d.length) = true := decide_eq_true h3
        have k5 : decide ((64 : Int) < (d.length : Int)) = true := decide_eq_true (by omega)
        clear h1
        go_enter Tryd.func13, Tryd.ntmps13
        go_wp2
        go_ret
        exact ⟨ret_bool RB.out, (Below.refl _ _).alloc (Nat.le_refl _) _⟩
      · have k2 : decide (64 < d.length) = false := decide_eq_false h3
        have k5 : decide ((64 : Int) < (d.length : Int)) = false := decide_eq_false (by omega)
        have k3 : ((o.length : Int) != (d.length : Int) - 1) = true := by simp; omega
        clear h1
        go_enter Tryd.func13, Tryd.ntmps13
        go_wp2
        go_ret
        exact ⟨ret_bool RB.out, (Below.refl _ _).alloc (Nat.le_refl _) _⟩
set_option maxHeartbeats 4000000 in
theorem wrongR_c (A B : Option Addr) (cA cB : Nat) (d o : List Nat) (x : Nat) (W : World) (hd : Fl W A d) (ho : Fl W B o) (wd : ∀ x ∈ d, W64 x) (wo : ∀ x ∈ o, W64 x) (hx : W64 x) :
    Calls Tryd.prog 24 #[.agg #[.slice A d.length cA, .slice B o.length cB], .float .f64 x] W fun e w' => e = .returned (.int .i64 (wrongE d o x)) ∧ Below W.heap.size W w' := by
  have rc : ∀ w, Below W.heap.size W w → Calls Tryd.prog 13 #[.agg #[.slice A d.length cA, .slice B o.length cB]] w fun e w' => e = .returned (.bool (rightB d o)) ∧ Below w.heap.size w w' := fun w h => rightR_c A B cA cB d o w (hd.below h) (ho.below h) wd wo
  have BA := Lib.hid ((Below.refl W.heap.size W).alloc (Nat.le_refl _) (.cells #[.slice A d.length cA, .slice B o.length cB] 24))
  cases hr : rightB d o
  · have we : wrongE d o x = 4 := by unfold wrongE; rw [hr]; rfl
    rw [hr] at rc
    have RC := Lib.hid rc
    have WE := Lib.hid we
    clear rc hr we hd ho wd wo hx
    go_enter Tryd.func24, Tryd.ntmps24
    go_wp2_with (go_at_call 13; (with_reducible refine (RC.out _ BA.out).mono ?_); rintro e w1 ⟨rfl, hb⟩; have HB := Lib.hid hb; clear hb)
    go_ret
    exact ⟨ret_int WE.out.symm, BA.out.trans (HB.out.mono (by simp))⟩
  · have we : wrongE d o x = if 9218868437227405312 ≤ rg x then 5 else if 6867989431740006400 < rg x then 2 else 0 := by unfold wrongE; rw [hr]; rfl
    rw [hr] at rc
    have RC := Lib.hid rc
    clear rc hr hd ho wd wo
    rcases Nat.lt_or_ge (rg x) 9218868437227405312 with hf | hf
    · have s0 : ∀ (t : TypeId) w, (binOp .sub t (.float .f64 x) (.float .f64 x)).run Tryd.prog w = .ok (.float .f64 0) w := fun t w => run_float_arith w .sub t .f64 x x 0 (sub_self_fin hx hf)
      have t0 : (FloatKind.f64.format.order 0 0 != some .eq) = false := by decide
      have wi : ∀ w, Calls Tryd.prog 29 #[.float .f64 x, .float .f64 6867989431740006400] w fun e w' => e = .returned (.bool (decide (rg x ≤ 6867989431740006400))) ∧ w' = w := fun w => within_c x 6867989431740006400 hx (by decide) w
      rw [if_neg (by omega)] at we
      have WE := Lib.hid we
      have HX := Lib.hid hx
      clear we hx hf
      by_cases hg : 6867989431740006400 < rg x
      · rw [decide_eq_false (by omega : ¬ rg x ≤ 6867989431740006400)] at wi
        have WI := Lib.hid wi
        clear wi
        have HG := Lib.hid hg
        clear hg
        go_enter Tryd.func24, Tryd.ntmps24
        go_wp2_with (first
          | (go_at_call 13; (with_reducible refine (RC.out _ BA.out).mono ?_); rintro e w1 ⟨rfl, hb⟩; have HB := Lib.hid hb; clear hb)
          | (go_at_call 25; (with_reducible refine (t502_c _).mono ?_); rintro e w' ⟨rfl, hw⟩; obtain rfl := hw.symm; clear hw)
          | (go_at_call 29; (with_reducible refine (WI.out _).mono ?_); rintro e w' ⟨rfl, hw⟩; obtain rfl := hw.symm; clear hw))
        go_ret
        exact ⟨ret_int (by rw [WE.out, if_pos HG.out]), BA.out.trans (HB.out.mono (by simp))⟩
      · rw [decide_eq_true (by omega : rg x ≤ 6867989431740006400)] at wi
        have WI := Lib.hid wi
        clear wi
        have HG := Lib.hid hg
        clear hg
        go_enter Tryd.func24, Tryd.ntmps24
        go_wp2_with (first
          | (go_at_call 13; (with_reducible refine (RC.out _ BA.out).mono ?_); rintro e w1 ⟨rfl, hb⟩; have HB := Lib.hid hb; clear hb)
          | (go_at_call 25; (with_reducible refine (t502_c _).mono ?_); rintro e w' ⟨rfl, hw⟩; obtain rfl := hw.symm; clear hw)
          | (go_at_call 29; (with_reducible refine (WI.out _).mono ?_); rintro e w' ⟨rfl, hw⟩; obtain rfl := hw.symm; clear hw))
        go_ret
        exact ⟨ret_int (by rw [WE.out, if_neg HG.out]), BA.out.trans (HB.out.mono (by simp))⟩
    · have s0 : floatBits .sub .f64 x x = none := sub_self_no hx hf
      rw [if_pos hf] at we
      have WE := Lib.hid we
      have S0 := Lib.hid s0
      clear we hx hf s0
      go_enter Tryd.func24, Tryd.ntmps24
      go_wp2_with (first
        | (go_at_call 13; (with_reducible refine (RC.out _ BA.out).mono ?_); rintro e w1 ⟨rfl, hb⟩; have HB := Lib.hid hb; clear hb)
        | (refine wp_arith .f64 x x rfl rfl rfl ?_; intro r n hr; rw [S0.out] at hr; have t0 := nan_ne hr.1 hr.2; clear hr))
      go_ret
      exact ⟨ret_int WE.out.symm, bl_drewN (BA.out.trans (HB.out.mono (by simp))) _⟩
end Go.Proofs.YtaedkekjekbjmaaDoor
