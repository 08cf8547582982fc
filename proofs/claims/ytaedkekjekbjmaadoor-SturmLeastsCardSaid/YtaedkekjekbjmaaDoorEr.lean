import Derived.Test.YtaedkekjekbjmaaDoorEn
import Derived.Test.YtaedkekjekbjmaaDoorEq
import Derived.Test.YtaedkekjekbjmaaDoorEo
import Derived.Deep.CutRange
import Derived.BigQuiet
import Derived.Test.YtaedkekjekbjmaaDoorEk
import Derived.Test.YtaedkekjekbjmaaDoorEi
import Derived.Test.YtaedkekjekbjmaaDoorEp
import Derived.Test.YtaedkekjekbjmaaDoorEj
import Derived.Deep.QuietTactic
import Derived.OwnWalk
/- girderref17.part. -/
namespace Go.Proofs.YtaedkekjekbjmaaDoor
open Go Go.RowKit Nv GFl Ieee
open Go.Proofs.YtaedkekjekbjmaaDoorW.PrintWords (Kd)
set_option maxRecDepth 100000
set_option linter.unusedSimpArgs false

theorem sz_gen {m : Nat} {v : Int} (N : Nat) (h : Bd m v) (hm : m ≤ 64 * N) : (v.natAbs : Int) < ls N := by
  unfold ls
  have h2 : v.natAbs < 2 ^ (64 * N) := Nat.lt_of_lt_of_le h (Nat.pow_le_pow_right (by decide) hm)
  rw [show (18446744073709551616 : Int) ^ N = ((2 ^ (64 * N) : Nat) : Int) by rw [Nat.pow_mul]; simp] 
  exact Int.ofNat_lt.2 h2
theorem Bd.sz {m : Nat} {v : Int} (h : Bd m v) (hm : m ≤ 1000000) : Sz v := sz_gen 1000000 h (by omega)
def yI (O : List Int) (i : Nat) : Int := if i = 0 then 0 else O.getD (i - 1) 0
abbrev nI (X : Int) (D O : List Int) (i : Nat) (q : St.S) : Int := St.nxt (D.getD i 0 - X) (yI O i) q
/-- What holds at the head of part's loop. -/
structure PH (W w : World) (cc xx : Array Value) (X : Int) (D O : List Int) (i : Nat) (q : St.S) (b9 b10 : Nat) : Prop where
  below : Below W.heap.size W w
  k0 : w.heap[W.heap.size]? = some (.cells cc 24 (0, 0))
  k1 : w.heap[W.heap.size + 1]? = some (.cells xx 50 (0, 0))
  g9 : W.heap.size + 2 ≤ b9
  g10 : W.heap.size + 2 ≤ b10
  ne : b9 ≠ b10
  n9 : i < D.length → NB w b9 (1074 * i) ((1023 * i : Nat) : Int) q.nw
  n10 : i < D.length → NB w b10 (1074 * (i + 1)) ((1023 * (i + 1) : Nat) : Int) (nI X D O i q)
  s : q.s = 1 ∨ q.s = -1
  c0 : 0 ≤ q.c
  c1 : q.c ≤ i
  bw : Bd (1600 * i + 1) q.nw
  bx : i < D.length → Bd (1600 * (i + 1) + 1) (nI X D O i q)
  run : St.run ((St.rw_ X 0 D O).drop i) q = St.run (St.rw_ X 0 D O) St.S0
theorem rw_at (X : Int) {D O : List Int} (hl : D.length = O.length + 1) {i : Nat} (hi : i < D.length) : (St.rw_ X 0 D O).drop i = (D.getD i 0 - X, yI O i) :: (St.rw_ X 0 D O).drop (i + 1) := by
  obtain ⟨y, h0, h1, h2⟩ := St.rw_drop X i D 0 O hi hl
  rw [h2]
  have e1 : D.getD i 0 = D[i] := by simp [hi]
  have e2 : yI O i = y := by
    unfold yI
    split
    · rename_i h; exact (h0 h).symm
    · rename_i h
      obtain ⟨h3, h4⟩ := h1 (by omega)
      rw [h4]
      simp [h3]
  rw [e1, e2]
theorem run_at (X : Int) {D O : List Int} (hl : D.length = O.length + 1) {i : Nat} (hi : i < D.length) (q : St.S) : St.run ((St.rw_ X 0 D O).drop i) q = St.run ((St.rw_ X 0 D O).drop (i + 1)) (St.stp (decide (i + 1 = D.length)) (nI X D O i q) q) := by
  rw [rw_at X hl hi, St.run_cons]
  have e : ((St.rw_ X 0 D O).drop (i + 1)).isEmpty = decide (i + 1 = D.length) := by
    rw [Bool.eq_iff_iff, List.isEmpty_iff, List.drop_eq_nil_iff, St.rw_len]
    simp; omega
  rw [e]
/-- The last round. -/
theorem PH.last {W w w' : World} {cc xx : Array Value} {X : Int} {D O : List Int} {i : Nat} {q : St.S} {b9 b10 : Nat} (h : PH W w cc xx X D O i q b9 b10) (hl : D.length = O.length + 1) (hi : i + 1 = D.length) (hb : Below w.heap.size w w') :
    PH W w' cc xx X D O (i + 1) (St.stp (decide (i + 1 = D.length)) (nI X D O i q) q) b9 b10 := by
  obtain ⟨e1, e2⟩ := stp_ah (decide (i + 1 = D.length)) (nI X D O i q) q
  obtain ⟨s1, s2⟩ := stp_cs (decide (i + 1 = D.length)) (nI X D O i q) q h.s
  refine ⟨bl_then h.below hb, kb_keep hb h.k0, kb_keep hb h.k1, h.g9, h.g10, h.ne, fun h' => by omega, fun h' => by omega, s1, by have := h.c0; omega, by have := h.c1; omega, ?_, fun h' => by omega, ?_⟩
  · rw [e2]; exact h.bx (by omega)
  · rw [← run_at X hl (by omega)]; exact h.run
theorem PH.more {W w w' : World} {cc xx : Array Value} {X : Int} {D O : List Int} {i : Nat} {q : St.S} {b9 b10 : Nat} (h : PH W w cc xx X D O i q b9 b10) (hl : D.length = O.length + 1) (hi : i + 1 < D.length) (hB : Below W.heap.size W w') (k0 : w'.heap[W.heap.size]? = some (.cells cc 24 (0, 0))) (k1 : w'.heap[W.heap.size + 1]? = some (.cells xx 50 (0, 0)))
    (n9 : NB w' b9 (1074 * (i + 1)) ((1023 * (i + 1) : Nat) : Int) (nI X D O i q))
    (n10 : NB w' b10 (1074 * (i + 2)) ((1023 * (i + 2) : Nat) : Int) ((D.getD (i + 1) 0 - X) * nI X D O i q + -(O.getD i 0 * O.getD i 0 * q.nw)))
    (bt : Bd 1578 (D.getD (i + 1) 0 - X)) (bo : Bd 1575 (O.getD i 0)) :
    PH W w' cc xx X D O (i + 1) (St.stp (decide (i + 1 = D.length)) (nI X D O i q) q) b9 b10 := by
  obtain ⟨e1, e2⟩ := stp_ah (decide (i + 1 = D.length)) (nI X D O i q) q
  obtain ⟨s1, s2⟩ := stp_cs (decide (i + 1 = D.length)) (nI X D O i q) q h.s
  have e3 : nI X D O (i + 1) (St.stp (decide (i + 1 = D.length)) (nI X D O i q) q) = (D.getD (i + 1) 0 - X) * nI X D O i q + -(O.getD i 0 * O.getD i 0 * q.nw) := by
    show St.nxt _ _ _ = _
    unfold St.nxt
    rw [e1, e2]
    have : yI O (i + 1) = O.getD i 0 := by simp [yI]
    rw [this]
    exact Int.sub_eq_add_neg
  refine ⟨hB, k0, k1, h.g9, h.g10, h.ne, fun _ => by rw [e2]; exact n9, fun _ => by rw [e3]; exact n10, s1, by have := h.c0; omega, by have := h.c1; omega, ?_, fun _ => ?_, ?_⟩
  · rw [e2]; exact h.bx (by omega)
  · rw [e3]
    have b1 : Bd (1578 + (1600 * (i + 1) + 1)) ((D.getD (i + 1) 0 - X) * nI X D O i q) := Bd.mul bt (h.bx (by omega))
    have b2 : Bd (1600 * (i + 1) + 1579) (O.getD i 0 * O.getD i 0 * q.nw) := (Bd.mul (Bd.mul bo bo) h.bw).le (by omega)
    have := Bd.sub (b1.le (show 1578 + (1600 * (i + 1) + 1) ≤ 1600 * (i + 1) + 1579 by omega)) b2
    rw [← Int.sub_eq_add_neg]
    exact this.le (by omega)
  · rw [← run_at X hl (by omega)]; exact h.run
/-- The two stores at a round's end. -/
theorem PH.swap {W wr wa : World} {cc xx : Array Value} {X : Int} {D O : List Int} {i : Nat} {q : St.S} {b9 b10 : Nat} (h : PH W wr cc xx X D O i q b9 b10) (hl : D.length = O.length + 1) (hi : i + 1 < D.length) (hB : Below wr.heap.size wr wa)
    {gn gQ : Bool} {An AQ : Option Addr} {mn mQ cn cQ : Nat} {en eQ : Int} (k10 : wr.heap[b10]? = some (.cells #[.bool gn, .slice An mn cn, .int .i64 en] 50 (0, 0)))
    (n10 : NS wr (.agg #[.bool gn, .slice An mn cn, .int .i64 en]) (1074 * (i + 1)) ((1023 * (i + 1) : Nat) : Int) (nI X D O i q))
    (nQ : NS wa (.agg #[.bool gQ, .slice AQ mQ cQ, .int .i64 eQ]) (1074 * (i + 2)) ((1023 * (i + 2) : Nat) : Int) ((D.getD (i + 1) 0 - X) * nI X D O i q + -(O.getD i 0 * O.getD i 0 * q.nw)))
    (bt : Bd 1578 (D.getD (i + 1) 0 - X)) (bo : Bd 1575 (O.getD i 0)) :
    PH W (finN (finN wa b9 gn (.slice An mn cn) en) b10 gQ (.slice AQ mQ cQ) eQ) cc xx X D O (i + 1) (St.stp (decide (i + 1 = D.length)) (nI X D O i q) q) b9 b10 := by
  have a9 := (h.n9 (by omega)).ab.below hB
  have a10 : AB wa b10 := AB.below ⟨_, _, _, _, _, k10⟩ hB
  have a10' : AB (finN wa b9 gn (.slice An mn cn) en) b10 := a10.fin a9 _ _ _ _ _
  have g9 := h.g9
  have g10 := h.g10
  refine h.more hl hi (bl_fin (bl_fin (bl_then h.below hB) (by omega) _ _ _) (by omega) _ _ _) ?_ ?_ ?_ ?_ bt bo
  · rw [fin_far (by omega), fin_far (by omega)]; exact kb_keep hB h.k0
  · rw [fin_far (by omega), fin_far (by omega)]; exact kb_keep hB h.k1
  · exact (NS.put (n10.below hB) a9).fin a10' h.ne _ _ _ _ _
  · exact NS.put (nQ.fin a9 _ _ _ _ _) a10'
theorem times_k {w : World} {u v : Value} {k k' k2 : Nat} {E E' E2 z z' : Int} (h : NS w u k E z) (h' : NS w v k' E' z') (hs : Sz z) (hs' : Sz z') (hk : k ≤ 1000000) (hk' : k' ≤ 1000000) (hE : E ≤ 1000000) (hE' : E' ≤ 1000000) (ek : k + k' = k2) (eE : E + E' = E2) :
    Calls Tryd.prog 66 #[u, v] w (ZPost k2 E2 (z * z') w) := by
  subst ek eE
  exact times_s h h' hs hs' hk hk' hE hE'

set_option maxHeartbeats 8000000 in
theorem part_h {W : World} (A B : Option Addr) (cA cB : Nat) (d o : List Nat) (f n : Nat) (xv : Value) (x : Int) (D O : List Int) (hd : Fl W A d) (ho : Fl W B o) (cd : ∀ y ∈ d, Cf y) (co : ∀ y ∈ o, Cf y) (hx : NS W xv 1074 1023 x) (hn : 1 ≤ n) (hn2 : n ≤ 64) (hf2 : f ≤ 64) (hfd : f + n ≤ d.length) (hfo : f + n ≤ o.length + 1) (hD : D.length = n) (hO : O.length + 1 = n)
    (gD : ∀ i (h : f + i < d.length), i < n → val d[f + i] = D.getD i 0) (gO : ∀ i (h : f + i < o.length), i + 1 < n → val o[f + i] = O.getD i 0) (bx : Bd 1577 x) :
    Calls Tryd.prog 45 #[.agg #[.slice A d.length cA, .slice B o.length cB], .int .i64 f, .int .i64 n, xv] W fun e w' => e = .returned (.int .i64 (St.prt x D O)) ∧ Below W.heap.size W w' := by
  have hfd0 : f < d.length := by omega
  obtain ⟨ad, hA, d0⟩ := hd.at hfd0
  subst hA
  have cy := cd _ (List.getElem_mem hfd0)
  have hy0 := gD 0 hfd0 (by omega)
  obtain ⟨y, hy⟩ : ∃ y, d[f] = y := ⟨_, rfl⟩
  rw [show d[f + 0] = y from hy] at hy0
  rw [hy] at d0 cy
  have by_ : Bd 1575 (val y) := cy.val
  have bt : Bd 1578 (val y + -x) := by rw [← Int.sub_eq_add_neg]; exact Bd.sub (by_.le (by omega)) bx
  have WH : Hid (∀ w, Calls Tryd.prog 51 #[.int .i64 1] w (ZPost 0 0 1 w)) := Lib.hid (fun w => whole_s 1 (by decide) w)
  have FL : Hid (∀ w, Calls Tryd.prog 27 #[.float .f64 y] w (ZPost 1074 1023 (val y) w)) := Lib.hid (fun w => float_s y cy.w (Nat.lt_of_le_of_lt cy.r (by decide)))
  have MX : Hid (∀ w, Below W.heap.size W w → Calls Tryd.prog 64 #[xv] w (ZPost 1074 1023 (-x) w)) := Lib.hid (fun w hb => minus_s (hx.below hb))
  have sx : Sz (-x) := by have := bx.sz (by decide); unfold Sz at *; omega
  have SX := Lib.hid sx
  have SY := Lib.hid (by_.sz (by decide))
  have PL : Hid (∀ w vf vm, NS w vf 1074 1023 (val y) → NS w vm 1074 1023 (-x) → Calls Tryd.prog 63 #[vf, vm] w (ZPost 1074 1023 (val y + -x) w)) := Lib.hid (fun w vf vm h1 h2 => plus_s h1 h2 SY.out SX.out (by decide) (by decide))
  obtain ⟨gx, Ax, mx, cx, ex, rfl⟩ := hx.agg
  have j0 : (0 : Int) ≤ (f : Int) := by omega
  have j1 : (f : Int) < (d.length : Int) := by omega
  have HD0 := Lib.hid d0
  have HD := Lib.hid hd
  have HO := Lib.hid ho
  have CD := Lib.hid cd
  have CO := Lib.hid co
  have HX := Lib.hid hx
  have GD := Lib.hid gD
  have GO := Lib.hid gO
  have BXX := Lib.hid bx
  have BT := Lib.hid bt
  have HY0 := Lib.hid hy0
  have HDL := Lib.hid hD
  have HOL := Lib.hid hO
  have HFD := Lib.hid hfd
  have HFO := Lib.hid hfo
  clear hd ho cd co hx gD gO bx bt hy0 hD hO hfd hfo cy by_ sx hy hfd0 d0
  have B0 : Hid (Below W.heap.size W ((W.alloc (.cells #[.slice (some ad) d.length cA, .slice B o.length cB] 24)).alloc (.cells #[.bool gx, .slice Ax mx cx, .int .i64 ex] 50))) := Lib.hid (by repeat' (first | (with_reducible exact Below.refl _ _) | (with_reducible refine bl_alloc ?_ _) | (with_reducible refine bl_drewN ?_ _) | (with_reducible refine bl_drew ?_) | (with_reducible refine bl_set ?_ _ (by simp))))
  obtain ⟨k0, k1⟩ := two_blk3 W (.cells #[.slice (some ad) d.length cA, .slice B o.length cB] 24) (.cells #[.bool gx, .slice Ax mx cx, .int .i64 ex] 50)
  go_enter Tryd.func45, Tryd.ntmps45
  go_upto_region 2 with (first
    | (go_at_call 51; (with_reducible refine (WH.out _).mono ?_); rintro e w1 ⟨v1, rfl, hv, hb⟩; obtain ⟨g1, A1, m1, c1, x1, rfl⟩ := hv.agg; have N1 := Lib.hid hv; have B0 := Lib.hid (bl_then B0.out hb); have q0 := kb_keep hb k0; have q1 := kb_keep hb k1; clear hv hb))
  have B1 := Lib.hid (bl_drew (bl_alloc B0.out (.cells #[.bool g1, .slice A1 m1 c1, .int .i64 x1] 50)))
  have HB9 : Hid (W.heap.size + 2 ≤ w1.heap.size) := Lib.hid (by have := kb_lt q1; omega)
  have r0 := kb_alloc (o' := .cells #[.bool g1, .slice A1 m1 c1, .int .i64 x1] 50) q0
  have r1 := kb_alloc (o' := .cells #[.bool g1, .slice A1 m1 c1, .int .i64 x1] 50) q1
  have N2 : Hid (NB (w1.alloc (.cells #[.bool g1, .slice A1 m1 c1, .int .i64 x1] 50)).drew w1.heap.size 0 0 1) := Lib.hid ⟨g1, A1, m1, c1, x1, kb_new (dr_below _), (N1.out.alloc_ _).below (dr_below _)⟩
  have r0 := kb_keep (dr_below _) r0
  have r1 := kb_keep (dr_below _) r1
  refine wp_region_G (g := 10) (S := fun w' => w'.cell? ⟨W.heap.size, 0, none⟩ = some (.slice (some ad) d.length cA) ∧ w'.cell? (ad.add f) = some (.float .f64 y) ∧ w'.cell? ⟨W.heap.size + 1, 0, none⟩ = some (.bool gx) ∧ w'.cell? ⟨W.heap.size + 1, 1, none⟩ = some (.slice Ax mx cx) ∧ w'.cell? ⟨W.heap.size + 1, 2, none⟩ = some (.int .i64 ex)) (by kernel_rfl) ?_
  obtain ⟨w3, hw3⟩ : ∃ w, (w1.alloc (.cells #[.bool g1, .slice A1 m1 c1, .int .i64 x1] 50)).drew = w := ⟨_, rfl⟩
  obtain ⟨b9, hb9⟩ : ∃ b, w1.heap.size = b := ⟨_, rfl⟩
  rw [hw3] at B1 r0 r1 N2
  rw [hb9] at N2 HB9
  simp only [hw3, hb9]
  clear hw3 hb9 N1 B0 q0 q1 k0 k1
  have hS : w3.cell? ⟨W.heap.size, 0, none⟩ = some (.slice (some ad) d.length cA) ∧ w3.cell? (ad.add f) = some (.float .f64 y) ∧ w3.cell? ⟨W.heap.size + 1, 0, none⟩ = some (.bool gx) ∧ w3.cell? ⟨W.heap.size + 1, 1, none⟩ = some (.slice Ax mx cx) ∧ w3.cell? ⟨W.heap.size + 1, 2, none⟩ = some (.int .i64 ex) := ⟨kb_cell r0 (i := 0) rfl, kb_cB B1.out HD0.out, kb_cell r1 (i := 0) rfl, kb_cell r1 (i := 1) rfl, kb_cell r1 (i := 2) rfl⟩
  (refine wpG_take (i := 0) (v := ?_) rfl rfl (by kernel_rfl) (by kernel_rfl) (by kernel_rfl) (fun _ _ _ h => h) (Or.inl ⟨by rfl, fun w => ?_⟩) (Or.inr hS) ?_; rotate_left; focus (go_simp; first | done | with_reducible rfl | exact rfl)); (try simp only [Act.put, List.setIfInBounds_toArray, List.set_cons_zero, List.set_cons_succ, List.getElem_toArray, List.getElem_cons_zero, List.getElem_cons_succ])
  (refine wpG_ldC (i := 1) [3, 4, 5, 8, 10] (v := ?_) rfl rfl (by kernel_rfl) (by kernel_rfl) (by kernel_rfl) (by kernel_rfl) (fun _ _ _ h => h) (Or.inl ⟨by rfl, ?_⟩) hS ?_; rotate_left; focus (intro w hSw; (try dsimp only at hSw); go_simp; first | done | with_reducible rfl | exact rfl)); (try simp only [Act.put, List.setIfInBounds_toArray, List.set_cons_zero, List.set_cons_succ, List.getElem_toArray, List.getElem_cons_zero, List.getElem_cons_succ])
  (refine wpG_take (i := 2) (v := ?_) rfl rfl (by kernel_rfl) (by kernel_rfl) (by kernel_rfl) (fun _ _ _ h => h) (Or.inl ⟨by rfl, fun w => ?_⟩) (Or.inr hS) ?_; rotate_left; focus (go_simp; first | done | with_reducible rfl | exact rfl)); (try simp only [Act.put, List.setIfInBounds_toArray, List.set_cons_zero, List.set_cons_succ, List.getElem_toArray, List.getElem_cons_zero, List.getElem_cons_succ]); (refine wpG_take (i := 3) (v := ?_) rfl rfl (by kernel_rfl) (by kernel_rfl) (by kernel_rfl) (fun _ _ _ h => h) (Or.inl ⟨by rfl, fun w => ?_⟩) (Or.inr hS) ?_; rotate_left; focus (go_simp; first | done | with_reducible rfl | exact rfl)); (try simp only [Act.put, List.setIfInBounds_toArray, List.set_cons_zero, List.set_cons_succ, List.getElem_toArray, List.getElem_cons_zero, List.getElem_cons_succ])
  (refine wpG_ldC (i := 4) [5, 8, 10] (v := ?_) rfl rfl (by kernel_rfl) (by kernel_rfl) (by kernel_rfl) (by kernel_rfl) (fun _ _ _ h => h) (Or.inl ⟨by rfl, ?_⟩) hS ?_; rotate_left; focus (intro w hSw; (try dsimp only at hSw); go_simp; first | done | with_reducible rfl | exact rfl)); (try simp only [Act.put, List.setIfInBounds_toArray, List.set_cons_zero, List.set_cons_succ, List.getElem_toArray, List.getElem_cons_zero, List.getElem_cons_succ])
  (refine wpG_ldC (i := 6) [7, 8, 10] (v := ?_) rfl rfl (by kernel_rfl) (by kernel_rfl) (by kernel_rfl) (by kernel_rfl) (fun _ _ _ h => h) (Or.inl ⟨by rfl, ?_⟩) hS ?_; rotate_left; focus (intro w hSw; (try dsimp only at hSw); go_simp; first | done | with_reducible rfl | exact rfl)); (try simp only [Act.put, List.setIfInBounds_toArray, List.set_cons_zero, List.set_cons_succ, List.getElem_toArray, List.getElem_cons_zero, List.getElem_cons_succ])
  refine wpG_mix [5, 7, 8, 9, 10] [24, 26, 27, 10] (fun l vs w => ∃ x24 x26 x27 x10, vs = [x24, x26, x27, x10] ∧ Below w3.heap.size w3 w ∧ (On l 5 → NS w x24 1074 1023 (val y)) ∧ (On l 7 → NS w x26 1074 1023 (-x)) ∧ (On l 8 → NS w x27 1074 1023 (val y + -x)) ∧ (On l 9 → ∃ b, x10 = pt b ∧ w3.heap.size ≤ b ∧ AB w b) ∧ (On l 10 → On l 9 ∧ ∃ b, x10 = pt b ∧ w3.heap.size ≤ b ∧ NB w b 1074 1023 (val y + -x))) (by kernel_rfl) ⟨_, _, _, _, rfl, Below.refl _ _, fun h => off h (by kernel_rfl), fun h => off h (by kernel_rfl), fun h => off h (by kernel_rfl), fun h => off h (by kernel_rfl), fun h => off h (by kernel_rfl)⟩ ?_ ⟨?_, ?_, ?_, ?_, ?_, trivial⟩ ?_
  · rintro l vs w ⟨x24, x26, x27, x10, rfl, hB, h5, h7, h8, h9, h10⟩
    exact Or.inr ⟨kb_cB hB hS.1, kb_cB hB hS.2.1, kb_cB hB hS.2.2.1, kb_cB hB hS.2.2.2.1, kb_cB hB hS.2.2.2.2⟩
  · rintro l vs w K hf ha ⟨x24, x26, x27, x10, rfl, hB, h5, h7, h8, h9, h10⟩ hK
    have HK := Lib.hid hK
    clear hK
    refine ⟨_, rfl, ?_⟩
    simp only [puts]
    (try simp only [Act.put, List.setIfInBounds_toArray, List.set_cons_zero, List.set_cons_succ, List.getElem_toArray, List.getElem_cons_zero, List.getElem_cons_succ])
    go_simp
    go_at_call 27
    (with_reducible refine (FL.out _).mono ?_)
    rintro e w1 ⟨v, rfl, hv, hb⟩
    have key := HK.out [v, x26, x27, x10] w1 ⟨v, x26, x27, x10, rfl, bl_then hB hb, fun _ => hv, fun h => NS.below (h7 (h.old (by decide))) hb, fun h => NS.below (h8 (h.old (by decide))) hb, fun h => ab_grow (h9 (h.old (by decide))) hb, fun h => ⟨(h10 (h.old (by decide))).1.set, nb_grow (h10 (h.old (by decide))).2 hb⟩⟩
    simp only [puts] at key
    (try simp only [Act.put, List.setIfInBounds_toArray, List.set_cons_zero, List.set_cons_succ, List.getElem_toArray, List.getElem_cons_zero, List.getElem_cons_succ] at key)
    exact key
  · rintro l vs w K hf ha ⟨x24, x26, x27, x10, rfl, hB, h5, h7, h8, h9, h10⟩ hK
    have HK := Lib.hid hK
    clear hK
    refine ⟨_, rfl, ?_⟩
    simp only [puts]
    (try simp only [Act.put, List.setIfInBounds_toArray, List.set_cons_zero, List.set_cons_succ, List.getElem_toArray, List.getElem_cons_zero, List.getElem_cons_succ])
    go_simp
    go_at_call 64
    (with_reducible refine (MX.out _ (bl_then B1.out hB)).mono ?_)
    rintro e w1 ⟨v, rfl, hv, hb⟩
    have key := HK.out [x24, v, x27, x10] w1 ⟨x24, v, x27, x10, rfl, bl_then hB hb, fun h => NS.below (h5 (h.old (by decide))) hb, fun _ => hv, fun h => NS.below (h8 (h.old (by decide))) hb, fun h => ab_grow (h9 (h.old (by decide))) hb, fun h => ⟨(h10 (h.old (by decide))).1.set, nb_grow (h10 (h.old (by decide))).2 hb⟩⟩
    simp only [puts] at key
    (try simp only [Act.put, List.setIfInBounds_toArray, List.set_cons_zero, List.set_cons_succ, List.getElem_toArray, List.getElem_cons_zero, List.getElem_cons_succ] at key)
    exact key
  · rintro l vs w K hf ha ⟨x24, x26, x27, x10, rfl, hB, h5, h7, h8, h9, h10⟩ hK
    have HK := Lib.hid hK
    clear hK
    refine ⟨_, rfl, ?_⟩
    simp only [puts]
    (try simp only [Act.put, List.setIfInBounds_toArray, List.set_cons_zero, List.set_cons_succ, List.getElem_toArray, List.getElem_cons_zero, List.getElem_cons_succ])
    go_simp
    go_at_call 63
    (with_reducible refine (PL.out _ _ _ (h5 (ha 5 (by kernel_rfl))) (h7 (ha 7 (by kernel_rfl)))).mono ?_)
    rintro e w1 ⟨v, rfl, hv, hb⟩
    have key := HK.out [x24, x26, v, x10] w1 ⟨x24, x26, v, x10, rfl, bl_then hB hb, fun h => NS.below (h5 (h.old (by decide))) hb, fun h => NS.below (h7 (h.old (by decide))) hb, fun _ => hv, fun h => ab_grow (h9 (h.old (by decide))) hb, fun h => ⟨(h10 (h.old (by decide))).1.set, nb_grow (h10 (h.old (by decide))).2 hb⟩⟩
    simp only [puts] at key
    (try simp only [Act.put, List.setIfInBounds_toArray, List.set_cons_zero, List.set_cons_succ, List.getElem_toArray, List.getElem_cons_zero, List.getElem_cons_succ] at key)
    exact key
  · rintro l vs w K hf ha ⟨x24, x26, x27, x10, rfl, hB, h5, h7, h8, h9, h10⟩ hK
    have HK := Lib.hid hK
    clear hK
    refine ⟨_, rfl, ?_⟩
    simp only [puts]
    (try simp only [Act.put, List.setIfInBounds_toArray, List.set_cons_zero, List.set_cons_succ, List.getElem_toArray, List.getElem_cons_zero, List.getElem_cons_succ])
    go_simp
    have hb : Below w.heap.size w (w.alloc nilN) := bl_alloc (Below.refl _ _) nilN
    have key := HK.out [x24, x26, x27, pt w.heap.size] (w.alloc nilN) ⟨x24, x26, x27, pt w.heap.size, rfl, bl_then hB hb, fun h => NS.below (h5 (h.old (by decide))) hb, fun h => NS.below (h7 (h.old (by decide))) hb, fun h => NS.below (h8 (h.old (by decide))) hb, fun _ => ⟨_, rfl, hB.size, ab_new w⟩, fun h => off (h10 (h.old (by decide))).1 hf⟩
    simp only [puts] at key
    (try simp only [Act.put, List.setIfInBounds_toArray, List.set_cons_zero, List.set_cons_succ, List.getElem_toArray, List.getElem_cons_zero, List.getElem_cons_succ] at key)
    exact key
  · rintro l vs w K hf ha ⟨x24, x26, x27, x10, rfl, hB, h5, h7, h8, h9, h10⟩ hK
    have HK := Lib.hid hK
    clear hK
    refine ⟨_, rfl, ?_⟩
    simp only [puts]
    (try simp only [Act.put, List.setIfInBounds_toArray, List.set_cons_zero, List.set_cons_succ, List.getElem_toArray, List.getElem_cons_zero, List.getElem_cons_succ])
    have n1 := h8 (ha 8 (by kernel_rfl))
    obtain ⟨b, rfl, hbb, ab⟩ := h9 (ha 9 (by kernel_rfl))
    obtain ⟨gp, Ap, mp, cp, ep, rfl⟩ := n1.agg
    obtain ⟨g0, A0, m0, c0, e0, ca0, ca1, ca2, fa0, fa1, fa2⟩ := ab.cells
    go_simp
    have key := HK.out [x24, x26, (.agg #[.bool gp, .slice Ap mp cp, .int .i64 ep]), pt b] (finN w b gp (.slice Ap mp cp) ep) ⟨x24, x26, (.agg #[.bool gp, .slice Ap mp cp, .int .i64 ep]), pt b, rfl, bl_fin hB hbb _ _ _, fun h => NS.fin (h5 (h.old (by decide))) ab _ _ _ _ _, fun h => NS.fin (h7 (h.old (by decide))) ab _ _ _ _ _, fun h => NS.fin (h8 (h.old (by decide))) ab _ _ _ _ _, fun _ => ⟨b, rfl, hbb, ab.fin ab _ _ _ _ _⟩, fun _ => ⟨(ha 9 (by kernel_rfl)).set, b, rfl, hbb, n1.put ab⟩⟩
    simp only [puts] at key
    (try simp only [Act.put, List.setIfInBounds_toArray, List.set_cons_zero, List.set_cons_succ, List.getElem_toArray, List.getElem_cons_zero, List.getElem_cons_succ] at key)
    exact key
  rintro l vs w4 ha ⟨x24, x26, x27, x10, rfl, hB, h5, h7, h8, h9, h10⟩
  obtain ⟨_, b10, rfl, hb10, nb10⟩ := h10 (ha 10)
  clear h5 h7 h8 h9 h10 ha
  simp only [puts]
  (try simp only [Act.put, List.setIfInBounds_toArray, List.set_cons_zero, List.set_cons_succ, List.getElem_toArray, List.getElem_cons_zero, List.getElem_cons_succ])
  have HB10 : Hid (W.heap.size + 2 ≤ b10 ∧ b9 ≠ b10) := Lib.hid (by have := N2.out.ab.lt; have := HB9.out; omega)
  have P0 : Hid (PH W w4 #[.slice (some ad) d.length cA, .slice B o.length cB] #[.bool gx, .slice Ax mx cx, .int .i64 ex] x D O 0 St.S0 b9 b10) := Lib.hid ⟨bl_then B1.out hB, kb_keep hB r0, kb_keep hB r1, HB9.out, HB10.out.1, HB10.out.2, fun _ => by simpa [St.S0] using N2.out.below hB, fun _ => by
      have e : nI x D O 0 St.S0 = val y + -x := by rw [HY0.out]; simp [nI, St.nxt, St.S0, yI]; omega
      rw [e]; simpa using nb10, .inl rfl, by decide, by decide, Bd.one.le (by omega), fun _ => by
      have e : nI x D O 0 St.S0 = val y + -x := by rw [HY0.out]; simp [nI, St.nxt, St.S0, yI]; omega
      rw [e]; exact BT.out.le (by omega), by rw [List.drop_zero]⟩
  clear hS nb10 hb10 r0 r1 hB N2 B1 HB9 HB10 BT HY0 FL SY
  go_wp2_with fail
  go_loopw [11, 12, 13] (fun v11 v12 v13 wr => ∃ (i : Nat) (s c : Int), v11 = .int .i64 s ∧ v12 = .int .i64 c ∧ v13 = .int .i64 i ∧ i ≤ n ∧ Hid (∃ q : St.S, q.c = c ∧ q.s = s ∧ PH W wr #[.slice (some ad) d.length cA, .slice B o.length cB] #[.bool gx, .slice Ax mx cx, .int .i64 ex] x D O i q b9 b10)) (fun _ _ v _ => n - (intOf v).toNat)
  case atStart => exact ⟨0, 1, 0, rfl, rfl, rfl, Nat.zero_le _, Lib.hid ⟨St.S0, rfl, rfl, P0.out⟩⟩
  case round =>
    obtain ⟨i, s, c, rfl, rfl, rfl, hi, hq⟩ := hrel
    clear P0
    by_cases hlt : i < n
    · have l1 : decide (i < n) = true := decide_eq_true hlt
      obtain ⟨q, hq1, hq2, hq3⟩ := hq.out
      have HI := Lib.hid hlt
      have iD : i < D.length := by rw [HDL.out]; exact hlt
      have ID := Lib.hid iD
      have hl : D.length = O.length + 1 := by rw [HDL.out, HOL.out]
      have HL := Lib.hid hl
      obtain ⟨gn, An, mn, cn, en, k10, n10⟩ := hq3.n10 iD
      obtain ⟨gp, Ap, mp, cp, ep, k9, n9⟩ := hq3.n9 iD
      have N10 := Lib.hid n10
      have N9 := Lib.hid n9
      have z0 := kb_cell k10 (i := 0) rfl
      have z1 := kb_cell k10 (i := 1) rfl
      have z2 := kb_cell k10 (i := 2) rfl
      have K10 := Lib.hid k10
      have K9 := Lib.hid k9
      have BM := Lib.hid (hq3.bx iD)
      have BP := Lib.hid hq3.bw
      have Q3 := Lib.hid hq3
      have sg := sign_s n10 (BM.out.sz (by omega))
      have hN : sgZ (nI x D O i q) = -1 ∨ sgZ (nI x D O i q) = 0 ∨ sgZ (nI x D O i q) = 1 := by unfold sgZ; (repeat' split) <;> simp
      have hI : sgnI (nI x D O i q) = sgZ (nI x D O i q) := by unfold sgnI sgZ; (repeat' split) <;> omega
      obtain ⟨sN, hsN⟩ : ∃ sN, sgZ (nI x D O i q) = sN := ⟨_, rfl⟩
      rw [hsN] at sg hN hI
      have SG := Lib.hid sg
      have sv := stp_val (last := decide (i + 1 = D.length)) hI hq2
      rw [hq1] at sv
      have hs := hq3.s
      rw [hq2] at hs
      have c0 : 0 ≤ c := by have := hq3.c0; rw [hq1] at this; exact this
      have c1 : c ≤ 64 := by have := hq3.c1; rw [hq1] at this; omega
      have SV := Lib.hid sv
      clear sg hsN sv hq hq1 hq2 hq3 n10 n9 k10 k9 hl iD hI
      by_cases hlast : i + 1 = D.length
      · have HLA := Lib.hid hlast
        have l2 : decide ((i : Int) < (n : Int) - 1) = false := decide_eq_false (by have := HLA.out; have := HDL.out; omega)
        have l3 : decide ((i : Int) + 1 < (n : Int)) = false := decide_eq_false (by have := HLA.out; have := HDL.out; omega)
        rcases hs with rfl | rfl <;> rcases hN with rfl | rfl | rfl
        all_goals
          have sv := SV.out
          rw [decide_eq_true HLA.out] at sv
          simp at sv
          have SV2 := Lib.hid sv
          clear sv SV hlast
          go_wp2_with (go_at_call 65; (with_reducible refine (SG.out).mono ?_); rintro e w9 ⟨rfl, hb⟩; have NX := Lib.hid (Q3.out.last HL.out HLA.out hb); clear hb)
          go_roundw
          case rel => exact ⟨i + 1, _, _, rfl, rfl, by go_num, by omega, Lib.hid ⟨_, by rw [decide_eq_true HLA.out]; exact SV2.out.1, by rw [decide_eq_true HLA.out]; exact SV2.out.2, NX.out⟩⟩
          case measure => simp [intOf]; omega
      · have HLA := Lib.hid hlast
        have hmore : i + 1 < D.length := by have := ID.out; omega
        have HMO := Lib.hid hmore
        have hof : f + i < o.length := by have := HFO.out; have := HDL.out; omega
        have hdf : f + (i + 1) < d.length := by have := HFD.out; have := HDL.out; omega
        obtain ⟨bd, hB, oc⟩ := HO.out.at hof
        subst hB
        obtain ⟨ad', e, dc⟩ := HD.out.at hdf
        injection e with e
        subst e
        have gu := GO.out i hof (by rw [← HDL.out]; exact hmore)
        have gt := GD.out (i + 1) hdf (by rw [← HDL.out]; exact hmore)
        have cu := CO.out _ (List.getElem_mem hof)
        have ct := CD.out _ (List.getElem_mem hdf)
        obtain ⟨yu, hyu⟩ : ∃ v, o[f + i] = v := ⟨_, rfl⟩
        obtain ⟨yt, hyt⟩ : ∃ v, d[f + (i + 1)] = v := ⟨_, rfl⟩
        rw [hyu] at oc gu cu
        rw [hyt] at dc gt ct
        obtain ⟨p0, hp0⟩ : ∃ v : Nat, f + i = v := ⟨_, rfl⟩
        obtain ⟨p1, hp1⟩ : ∃ v : Nat, f + (i + 1) = v := ⟨_, rfl⟩
        rw [hp0] at oc
        rw [hp1] at dc
        have c3 : IntKind.i64.wrap ((f : Int) + (i : Int)) = (p0 : Int) := by rw [IntKind.wrap_i64]; omega
        have c4 : IntKind.i64.wrap ((p0 : Int) + 1) = (p1 : Int) := by rw [IntKind.wrap_i64]; omega
        have c5 : (0 : Int) ≤ (p0 : Int) := by omega
        have c6 : (p0 : Int) < (o.length : Int) := by omega
        have c7 : (0 : Int) ≤ (p1 : Int) := by omega
        have c8 : (p1 : Int) < (d.length : Int) := by omega
        have OC := Lib.hid oc
        have DC := Lib.hid dc
        have FO : Hid (∀ w, Calls Tryd.prog 27 #[.float .f64 yu] w (ZPost 1074 1023 (val yu) w)) := Lib.hid (fun w => float_s yu cu.w (Nat.lt_of_le_of_lt cu.r (by decide)))
        have FT : Hid (∀ w, Calls Tryd.prog 27 #[.float .f64 yt] w (ZPost 1074 1023 (val yt) w)) := Lib.hid (fun w => float_s yt ct.w (Nat.lt_of_le_of_lt ct.r (by decide)))
        have bu : Bd 1575 (val yu) := cu.val
        have bt : Bd 1578 (val yt + -x) := by rw [← Int.sub_eq_add_neg]; exact Bd.sub (ct.val.le (by omega)) BXX.out
        have BU := Lib.hid bu
        have BT := Lib.hid bt
        have sT := Lib.hid (Bd.sz ct.val (by decide))
        have GU := Lib.hid gu
        have GT := Lib.hid gt
        obtain ⟨K2, hK2⟩ : ∃ k : Nat, 1074 * (i + 2) = k := ⟨_, rfl⟩
        obtain ⟨E2, hE2⟩ : ∃ e : Nat, 1023 * (i + 2) = e := ⟨_, rfl⟩
        obtain ⟨M, hM⟩ : ∃ m, nI x D O i q = m := ⟨_, rfl⟩
        obtain ⟨P, hP⟩ : ∃ m, q.nw = m := ⟨_, rfl⟩
        have bM : Bd (1600 * (i + 1) + 1) M := by rw [← hM]; exact BM.out
        have bP : Bd (1600 * i + 1) P := by rw [← hP]; exact BP.out
        have b1 : Bd (1578 + (1600 * (i + 1) + 1)) ((val yt + -x) * M) := Bd.mul bt bM
        have b2 : Bd (1575 + 1575 + (1600 * i + 1)) (val yu * val yu * P) := Bd.mul (Bd.mul bu bu) bP
        have s1 := Lib.hid (Bd.sz b1 (by omega))
        have s2 := Lib.hid (Bd.sz b2 (by omega))
        have s3 : Hid (Sz (-(val yu * val yu * P))) := Lib.hid (by have := s2.out; unfold Sz at *; omega)
        have PT : Hid (∀ w vf vm, NS w vf 1074 1023 (val yt) → NS w vm 1074 1023 (-x) → Calls Tryd.prog 63 #[vf, vm] w (ZPost 1074 1023 (val yt + -x) w)) := Lib.hid (fun w vf vm h1 h2 => plus_s h1 h2 sT.out SX.out (by decide) (by decide))
        have TA : Hid (∀ w va vm, NS w va 1074 1023 (val yt + -x) → NS w vm (1074 * (i + 1)) ((1023 * (i + 1) : Nat) : Int) M → Calls Tryd.prog 66 #[va, vm] w (ZPost K2 E2 ((val yt + -x) * M) w)) := Lib.hid (fun w va vm h1 h2 => times_k h1 h2 (Bd.sz bt (by decide)) (Bd.sz bM (by omega)) (by decide) (by omega) (by decide) (by omega) (by omega) (by omega))
        have TU : Hid (∀ w va, NS w va 1074 1023 (val yu) → Calls Tryd.prog 66 #[va, va] w (ZPost 2148 2046 (val yu * val yu) w)) := Lib.hid (fun w va h1 => times_k h1 h1 (Bd.sz bu (by decide)) (Bd.sz bu (by decide)) (by decide) (by decide) (by decide) (by decide) rfl rfl)
        have TP : Hid (∀ w va vm, NS w va 2148 2046 (val yu * val yu) → NS w vm (1074 * i) ((1023 * i : Nat) : Int) P → Calls Tryd.prog 66 #[va, vm] w (ZPost K2 E2 (val yu * val yu * P) w)) := Lib.hid (fun w va vm h1 h2 => times_k h1 h2 (Bd.sz (Bd.mul bu bu) (by decide)) (Bd.sz bP (by omega)) (by decide) (by omega) (by decide) (by omega) (by omega) (by omega))
        have PN : Hid (∀ w vf vm, NS w vf K2 E2 ((val yt + -x) * M) → NS w vm K2 E2 (-(val yu * val yu * P)) → Calls Tryd.prog 63 #[vf, vm] w (ZPost K2 E2 ((val yt + -x) * M + -(val yu * val yu * P)) w)) := Lib.hid (fun w vf vm h1 h2 => plus_s h1 h2 s1.out s3.out (by omega) (by omega))
        have N10' := Lib.hid N10.out
        rw [hM] at N10'
        have N9' := Lib.hid N9.out
        rw [hP] at N9'
        have HK2 := Lib.hid hK2
        have HE2 := Lib.hid hE2
        have HM := Lib.hid hM
        have HP := Lib.hid hP
        have y0 := kb_cell (w := wr) Q3.out.k0 (i := 0) rfl
        have l2 : decide ((i : Int) < (n : Int) - 1) = true := decide_eq_true (by have := HMO.out; have := HDL.out; omega)
        have l3 : decide ((i : Int) + 1 < (n : Int)) = true := decide_eq_true (by have := HMO.out; have := HDL.out; omega)
        clear hK2 hE2 hM hP bM bP b1 b2 bu bt cu ct gu gt oc dc hyu hyt hp0 hp1 hof hdf hmore hlast y0
        rcases hs with rfl | rfl <;> rcases hN with rfl | rfl | rfl
        all_goals
          have sv := SV.out
          rw [decide_eq_false HLA.out] at sv
          simp at sv
          have SV2 := Lib.hid sv
          clear sv SV
          go_upto_region 17 with (first
            | (go_at_call 65; (with_reducible refine (SG.out).mono ?_); rintro e w4 ⟨rfl, hb⟩; have BB := Lib.hid hb; have y0 := kb_cell (kb_keep hb Q3.out.k0) (i := 1) rfl; have y1 := kb_cB hb (kb_cB Q3.out.below OC.out); clear hb)
            | (go_at_call 27; (with_reducible refine (FO.out _).mono ?_); rintro e w5 ⟨vo, rfl, hv, hb⟩; obtain ⟨go_, Ao, mo, co_, eo, rfl⟩ := hv.agg; have NO := Lib.hid hv; have BB := Lib.hid (bl_then BB.out hb); clear hb hv))
          have B6 := Lib.hid (bl_drew (bl_alloc BB.out (.cells #[.bool go_, .slice Ao mo co_, .int .i64 eo] 50)))
          have N15 : Hid (NB (w5.alloc (.cells #[.bool go_, .slice Ao mo co_, .int .i64 eo] 50)).drew w5.heap.size 1074 1023 (val yu)) := Lib.hid ⟨go_, Ao, mo, co_, eo, kb_new (dr_below _), (NO.out.alloc_ _).below (dr_below _)⟩
          have H15 : Hid (wr.heap.size ≤ w5.heap.size) := Lib.hid BB.out.size
          refine wp_region_G (g := 13) (S := fun w' => w'.cell? ⟨W.heap.size, 0, none⟩ = some (.slice (some ad) d.length cA) ∧ w'.cell? (ad.add p1) = some (.float .f64 yt) ∧ w'.cell? ⟨W.heap.size + 1, 0, none⟩ = some (.bool gx) ∧ w'.cell? ⟨W.heap.size + 1, 1, none⟩ = some (.slice Ax mx cx) ∧ w'.cell? ⟨W.heap.size + 1, 2, none⟩ = some (.int .i64 ex)) (by kernel_rfl) ?_
          obtain ⟨w6, hw6⟩ : ∃ w, (w5.alloc (.cells #[.bool go_, .slice Ao mo co_, .int .i64 eo] 50)).drew = w := ⟨_, rfl⟩
          obtain ⟨b15, hb15⟩ : ∃ b, w5.heap.size = b := ⟨_, rfl⟩
          rw [hw6] at B6 N15
          rw [hb15] at N15 H15
          simp only [hw6, hb15]
          clear hw6 hb15 NO BB
          have hS : w6.cell? ⟨W.heap.size, 0, none⟩ = some (.slice (some ad) d.length cA) ∧ w6.cell? (ad.add p1) = some (.float .f64 yt) ∧ w6.cell? ⟨W.heap.size + 1, 0, none⟩ = some (.bool gx) ∧ w6.cell? ⟨W.heap.size + 1, 1, none⟩ = some (.slice Ax mx cx) ∧ w6.cell? ⟨W.heap.size + 1, 2, none⟩ = some (.int .i64 ex) := ⟨kb_cell (kb_keep B6.out Q3.out.k0) (i := 0) rfl, kb_cB (bl_then Q3.out.below B6.out) DC.out, kb_cell (kb_keep B6.out Q3.out.k1) (i := 0) rfl, kb_cell (kb_keep B6.out Q3.out.k1) (i := 1) rfl, kb_cell (kb_keep B6.out Q3.out.k1) (i := 2) rfl⟩
          (refine wpG_take (i := 0) (v := ?_) rfl rfl (by kernel_rfl) (by kernel_rfl) (by kernel_rfl) (fun _ _ _ h => h) (Or.inl ⟨by rfl, fun w => ?_⟩) (Or.inr hS) ?_; rotate_left; focus (go_simp; first | done | with_reducible rfl | exact rfl)); (try simp only [Act.put, List.setIfInBounds_toArray, List.set_cons_zero, List.set_cons_succ, List.getElem_toArray, List.getElem_cons_zero, List.getElem_cons_succ])
          (refine wpG_ldC (i := 1) [6, 7, 8, 11, 13] (v := ?_) rfl rfl (by kernel_rfl) (by kernel_rfl) (by kernel_rfl) (by kernel_rfl) (fun _ _ _ h => h) (Or.inl ⟨by rfl, ?_⟩) hS ?_; rotate_left; focus (intro w hSw; (try dsimp only at hSw); go_simp; first | done | with_reducible rfl | exact rfl)); (try simp only [Act.put, List.setIfInBounds_toArray, List.set_cons_zero, List.set_cons_succ, List.getElem_toArray, List.getElem_cons_zero, List.getElem_cons_succ])
          (refine wpG_take (i := 2) (v := ?_) rfl rfl (by kernel_rfl) (by kernel_rfl) (by kernel_rfl) (fun _ _ _ h => h) (Or.inl ⟨by rfl, fun w => ?_⟩) (Or.inr hS) ?_; rotate_left; focus (go_simp; first | done | with_reducible rfl | exact rfl)); (try simp only [Act.put, List.setIfInBounds_toArray, List.set_cons_zero, List.set_cons_succ, List.getElem_toArray, List.getElem_cons_zero, List.getElem_cons_succ]); (refine wpG_take (i := 3) (v := ?_) rfl rfl (by kernel_rfl) (by kernel_rfl) (by kernel_rfl) (fun _ _ _ h => h) (Or.inl ⟨by rfl, fun w => ?_⟩) (Or.inr hS) ?_; rotate_left; focus (go_simp; first | done | with_reducible rfl | exact rfl)); (try simp only [Act.put, List.setIfInBounds_toArray, List.set_cons_zero, List.set_cons_succ, List.getElem_toArray, List.getElem_cons_zero, List.getElem_cons_succ]); (refine wpG_take (i := 4) (v := ?_) rfl rfl (by kernel_rfl) (by kernel_rfl) (by kernel_rfl) (fun _ _ _ h => h) (Or.inl ⟨by rfl, fun w => ?_⟩) (Or.inr hS) ?_; rotate_left; focus (go_simp; first | done | with_reducible rfl | exact rfl)); (try simp only [Act.put, List.setIfInBounds_toArray, List.set_cons_zero, List.set_cons_succ, List.getElem_toArray, List.getElem_cons_zero, List.getElem_cons_succ]); (refine wpG_take (i := 5) (v := ?_) rfl rfl (by kernel_rfl) (by kernel_rfl) (by kernel_rfl) (fun _ _ _ h => h) (Or.inl ⟨by rfl, fun w => ?_⟩) (Or.inr hS) ?_; rotate_left; focus (go_simp; first | done | with_reducible rfl | exact rfl)); (try simp only [Act.put, List.setIfInBounds_toArray, List.set_cons_zero, List.set_cons_succ, List.getElem_toArray, List.getElem_cons_zero, List.getElem_cons_succ]); (refine wpG_take (i := 6) (v := ?_) rfl rfl (by kernel_rfl) (by kernel_rfl) (by kernel_rfl) (fun _ _ _ h => h) (Or.inl ⟨by rfl, fun w => ?_⟩) (Or.inr hS) ?_; rotate_left; focus (go_simp; first | done | with_reducible rfl | exact rfl)); (try simp only [Act.put, List.setIfInBounds_toArray, List.set_cons_zero, List.set_cons_succ, List.getElem_toArray, List.getElem_cons_zero, List.getElem_cons_succ])
          (refine wpG_ldC (i := 7) [8, 11, 13] (v := ?_) rfl rfl (by kernel_rfl) (by kernel_rfl) (by kernel_rfl) (by kernel_rfl) (fun _ _ _ h => h) (Or.inl ⟨by rfl, ?_⟩) hS ?_; rotate_left; focus (intro w hSw; (try dsimp only at hSw); go_simp; first | done | with_reducible rfl | exact rfl)); (try simp only [Act.put, List.setIfInBounds_toArray, List.set_cons_zero, List.set_cons_succ, List.getElem_toArray, List.getElem_cons_zero, List.getElem_cons_succ])
          (refine wpG_ldC (i := 9) [10, 11, 13] (v := ?_) rfl rfl (by kernel_rfl) (by kernel_rfl) (by kernel_rfl) (by kernel_rfl) (fun _ _ _ h => h) (Or.inl ⟨by rfl, ?_⟩) hS ?_; rotate_left; focus (intro w hSw; (try dsimp only at hSw); go_simp; first | done | with_reducible rfl | exact rfl)); (try simp only [Act.put, List.setIfInBounds_toArray, List.set_cons_zero, List.set_cons_succ, List.getElem_toArray, List.getElem_cons_zero, List.getElem_cons_succ])
          refine wpG_mix [8, 10, 11, 12, 13] [74, 76, 77, 16] (fun l vs w => ∃ x74 x76 x77 x16, vs = [x74, x76, x77, x16] ∧ Below w6.heap.size w6 w ∧ (On l 8 → NS w x74 1074 1023 (val yt)) ∧ (On l 10 → NS w x76 1074 1023 (-x)) ∧ (On l 11 → NS w x77 1074 1023 (val yt + -x)) ∧ (On l 12 → ∃ b, x16 = pt b ∧ w6.heap.size ≤ b ∧ AB w b) ∧ (On l 13 → On l 12 ∧ ∃ b, x16 = pt b ∧ w6.heap.size ≤ b ∧ NB w b 1074 1023 (val yt + -x))) (by kernel_rfl) ⟨_, _, _, _, rfl, Below.refl _ _, fun h => off h (by kernel_rfl), fun h => off h (by kernel_rfl), fun h => off h (by kernel_rfl), fun h => off h (by kernel_rfl), fun h => off h (by kernel_rfl)⟩ ?_ ⟨?_, ?_, ?_, ?_, ?_, trivial⟩ ?_
          · rintro l vs w ⟨x74, x76, x77, x16, rfl, hB, h8, h10, h11, h12, h13⟩
            exact Or.inr ⟨kb_cB hB hS.1, kb_cB hB hS.2.1, kb_cB hB hS.2.2.1, kb_cB hB hS.2.2.2.1, kb_cB hB hS.2.2.2.2⟩
          · rintro l vs w K hf ha ⟨x74, x76, x77, x16, rfl, hB, h8, h10, h11, h12, h13⟩ hK
            have HK := Lib.hid hK
            clear hK
            refine ⟨_, rfl, ?_⟩
            simp only [puts]
            (try simp only [Act.put, List.setIfInBounds_toArray, List.set_cons_zero, List.set_cons_succ, List.getElem_toArray, List.getElem_cons_zero, List.getElem_cons_succ])
            go_simp
            go_at_call 27
            (with_reducible refine (FT.out _).mono ?_)
            rintro e w1 ⟨v, rfl, hv, hb⟩
            have key := HK.out [v, x76, x77, x16] w1 ⟨v, x76, x77, x16, rfl, bl_then hB hb, fun _ => hv, fun h => NS.below (h10 (h.old (by decide))) hb, fun h => NS.below (h11 (h.old (by decide))) hb, fun h => ab_grow (h12 (h.old (by decide))) hb, fun h => ⟨(h13 (h.old (by decide))).1.set, nb_grow (h13 (h.old (by decide))).2 hb⟩⟩
            simp only [puts] at key
            (try simp only [Act.put, List.setIfInBounds_toArray, List.set_cons_zero, List.set_cons_succ, List.getElem_toArray, List.getElem_cons_zero, List.getElem_cons_succ] at key)
            exact key
          · rintro l vs w K hf ha ⟨x74, x76, x77, x16, rfl, hB, h8, h10, h11, h12, h13⟩ hK
            have HK := Lib.hid hK
            clear hK
            refine ⟨_, rfl, ?_⟩
            simp only [puts]
            (try simp only [Act.put, List.setIfInBounds_toArray, List.set_cons_zero, List.set_cons_succ, List.getElem_toArray, List.getElem_cons_zero, List.getElem_cons_succ])
            go_simp
            go_at_call 64
            (with_reducible refine (MX.out _ (bl_then (bl_then Q3.out.below B6.out) hB)).mono ?_)
            rintro e w1 ⟨v, rfl, hv, hb⟩
            have key := HK.out [x74, v, x77, x16] w1 ⟨x74, v, x77, x16, rfl, bl_then hB hb, fun h => NS.below (h8 (h.old (by decide))) hb, fun _ => hv, fun h => NS.below (h11 (h.old (by decide))) hb, fun h => ab_grow (h12 (h.old (by decide))) hb, fun h => ⟨(h13 (h.old (by decide))).1.set, nb_grow (h13 (h.old (by decide))).2 hb⟩⟩
            simp only [puts] at key
            (try simp only [Act.put, List.setIfInBounds_toArray, List.set_cons_zero, List.set_cons_succ, List.getElem_toArray, List.getElem_cons_zero, List.getElem_cons_succ] at key)
            exact key
          · rintro l vs w K hf ha ⟨x74, x76, x77, x16, rfl, hB, h8, h10, h11, h12, h13⟩ hK
            have HK := Lib.hid hK
            clear hK
            refine ⟨_, rfl, ?_⟩
            simp only [puts]
            (try simp only [Act.put, List.setIfInBounds_toArray, List.set_cons_zero, List.set_cons_succ, List.getElem_toArray, List.getElem_cons_zero, List.getElem_cons_succ])
            go_simp
            go_at_call 63
            (with_reducible refine (PT.out _ _ _ (h8 (ha 8 (by kernel_rfl))) (h10 (ha 10 (by kernel_rfl)))).mono ?_)
            rintro e w1 ⟨v, rfl, hv, hb⟩
            have key := HK.out [x74, x76, v, x16] w1 ⟨x74, x76, v, x16, rfl, bl_then hB hb, fun h => NS.below (h8 (h.old (by decide))) hb, fun h => NS.below (h10 (h.old (by decide))) hb, fun _ => hv, fun h => ab_grow (h12 (h.old (by decide))) hb, fun h => ⟨(h13 (h.old (by decide))).1.set, nb_grow (h13 (h.old (by decide))).2 hb⟩⟩
            simp only [puts] at key
            (try simp only [Act.put, List.setIfInBounds_toArray, List.set_cons_zero, List.set_cons_succ, List.getElem_toArray, List.getElem_cons_zero, List.getElem_cons_succ] at key)
            exact key
          · rintro l vs w K hf ha ⟨x74, x76, x77, x16, rfl, hB, h8, h10, h11, h12, h13⟩ hK
            have HK := Lib.hid hK
            clear hK
            refine ⟨_, rfl, ?_⟩
            simp only [puts]
            (try simp only [Act.put, List.setIfInBounds_toArray, List.set_cons_zero, List.set_cons_succ, List.getElem_toArray, List.getElem_cons_zero, List.getElem_cons_succ])
            go_simp
            have hb : Below w.heap.size w (w.alloc nilN) := bl_alloc (Below.refl _ _) nilN
            have key := HK.out [x74, x76, x77, pt w.heap.size] (w.alloc nilN) ⟨x74, x76, x77, pt w.heap.size, rfl, bl_then hB hb, fun h => NS.below (h8 (h.old (by decide))) hb, fun h => NS.below (h10 (h.old (by decide))) hb, fun h => NS.below (h11 (h.old (by decide))) hb, fun _ => ⟨_, rfl, hB.size, ab_new w⟩, fun h => off (h13 (h.old (by decide))).1 hf⟩
            simp only [puts] at key
            (try simp only [Act.put, List.setIfInBounds_toArray, List.set_cons_zero, List.set_cons_succ, List.getElem_toArray, List.getElem_cons_zero, List.getElem_cons_succ] at key)
            exact key
          · rintro l vs w K hf ha ⟨x74, x76, x77, x16, rfl, hB, h8, h10, h11, h12, h13⟩ hK
            have HK := Lib.hid hK
            clear hK
            refine ⟨_, rfl, ?_⟩
            simp only [puts]
            (try simp only [Act.put, List.setIfInBounds_toArray, List.set_cons_zero, List.set_cons_succ, List.getElem_toArray, List.getElem_cons_zero, List.getElem_cons_succ])
            have n1 := h11 (ha 11 (by kernel_rfl))
            obtain ⟨b, rfl, hbb, ab⟩ := h12 (ha 12 (by kernel_rfl))
            obtain ⟨gp, Ap, mp, cp, ep, rfl⟩ := n1.agg
            obtain ⟨g0, A0, m0, c0, e0, ca0, ca1, ca2, fa0, fa1, fa2⟩ := ab.cells
            go_simp
            have key := HK.out [x74, x76, (.agg #[.bool gp, .slice Ap mp cp, .int .i64 ep]), pt b] (finN w b gp (.slice Ap mp cp) ep) ⟨x74, x76, (.agg #[.bool gp, .slice Ap mp cp, .int .i64 ep]), pt b, rfl, bl_fin hB hbb _ _ _, fun h => NS.fin (h8 (h.old (by decide))) ab _ _ _ _ _, fun h => NS.fin (h10 (h.old (by decide))) ab _ _ _ _ _, fun h => NS.fin (h11 (h.old (by decide))) ab _ _ _ _ _, fun _ => ⟨b, rfl, hbb, ab.fin ab _ _ _ _ _⟩, fun _ => ⟨(ha 12 (by kernel_rfl)).set, b, rfl, hbb, n1.put ab⟩⟩
            simp only [puts] at key
            (try simp only [Act.put, List.setIfInBounds_toArray, List.set_cons_zero, List.set_cons_succ, List.getElem_toArray, List.getElem_cons_zero, List.getElem_cons_succ] at key)
            exact key
          rintro l vs w7 ha ⟨x74, x76, x77, x16, rfl, hB, h8, h10, h11, h12, h13⟩
          obtain ⟨_, b16, rfl, hb16, nb16⟩ := h13 (ha 13)
          clear h8 h10 h11 h12 h13 ha
          simp only [puts]
          (try simp only [Act.put, List.setIfInBounds_toArray, List.set_cons_zero, List.set_cons_succ, List.getElem_toArray, List.getElem_cons_zero, List.getElem_cons_succ])
          have B7 := Lib.hid (bl_then B6.out hB)
          have N15 := Lib.hid (N15.out.below hB)
          have N16 := Lib.hid nb16
          have H16 := Lib.hid (Nat.le_trans B6.out.size hb16)
          clear hS nb16 hb16 hB B6
          go_upto_region 18 with (fail)
          obtain ⟨gO, AO, mO, cO, eO, kO, nO⟩ := N15.out.below (dr_below _)
          obtain ⟨gT, AT, mT, cT, eT, kT, nT⟩ := N16.out.below (dr_below _)
          have NO := Lib.hid nO
          have NT := Lib.hid nT
          have KO := Lib.hid kO
          have KT := Lib.hid kT
          have B8 := Lib.hid (bl_drew B7.out)
          clear nO nT kO kT N15 N16 B7
          refine wp_region_G (g := 11) (S := fun w' => w'.cell? ⟨b16, 0, none⟩ = some (.bool gT) ∧ w'.cell? ⟨b16, 1, none⟩ = some (.slice AT mT cT) ∧ w'.cell? ⟨b16, 2, none⟩ = some (.int .i64 eT) ∧ w'.cell? ⟨b10, 0, none⟩ = some (.bool gn) ∧ w'.cell? ⟨b10, 1, none⟩ = some (.slice An mn cn) ∧ w'.cell? ⟨b10, 2, none⟩ = some (.int .i64 en) ∧ w'.cell? ⟨b15, 0, none⟩ = some (.bool gO) ∧ w'.cell? ⟨b15, 1, none⟩ = some (.slice AO mO cO) ∧ w'.cell? ⟨b15, 2, none⟩ = some (.int .i64 eO) ∧ w'.cell? ⟨b9, 0, none⟩ = some (.bool gp) ∧ w'.cell? ⟨b9, 1, none⟩ = some (.slice Ap mp cp) ∧ w'.cell? ⟨b9, 2, none⟩ = some (.int .i64 ep)) (by kernel_rfl) ?_
          obtain ⟨w8, hw8⟩ : ∃ w, w7.drew = w := ⟨_, rfl⟩
          rw [hw8] at B8 NO NT KO KT
          simp only [hw8]
          clear hw8
          have hS : w8.cell? ⟨b16, 0, none⟩ = some (.bool gT) ∧ w8.cell? ⟨b16, 1, none⟩ = some (.slice AT mT cT) ∧ w8.cell? ⟨b16, 2, none⟩ = some (.int .i64 eT) ∧ w8.cell? ⟨b10, 0, none⟩ = some (.bool gn) ∧ w8.cell? ⟨b10, 1, none⟩ = some (.slice An mn cn) ∧ w8.cell? ⟨b10, 2, none⟩ = some (.int .i64 en) ∧ w8.cell? ⟨b15, 0, none⟩ = some (.bool gO) ∧ w8.cell? ⟨b15, 1, none⟩ = some (.slice AO mO cO) ∧ w8.cell? ⟨b15, 2, none⟩ = some (.int .i64 eO) ∧ w8.cell? ⟨b9, 0, none⟩ = some (.bool gp) ∧ w8.cell? ⟨b9, 1, none⟩ = some (.slice Ap mp cp) ∧ w8.cell? ⟨b9, 2, none⟩ = some (.int .i64 ep) := ⟨kb_cell KT.out (i := 0) rfl, kb_cell KT.out (i := 1) rfl, kb_cell KT.out (i := 2) rfl, kb_cell (kb_keep B8.out K10.out) (i := 0) rfl, kb_cell (kb_keep B8.out K10.out) (i := 1) rfl, kb_cell (kb_keep B8.out K10.out) (i := 2) rfl, kb_cell KO.out (i := 0) rfl, kb_cell KO.out (i := 1) rfl, kb_cell KO.out (i := 2) rfl, kb_cell (kb_keep B8.out K9.out) (i := 0) rfl, kb_cell (kb_keep B8.out K9.out) (i := 1) rfl, kb_cell (kb_keep B8.out K9.out) (i := 2) rfl⟩
          (refine wpG_ldC (i := 0) [2, 9, 11] (v := ?_) rfl rfl (by kernel_rfl) (by kernel_rfl) (by kernel_rfl) (by kernel_rfl) (fun _ _ _ h => h) (Or.inl ⟨by rfl, ?_⟩) hS ?_; rotate_left; focus (intro w hSw; (try dsimp only at hSw); go_simp; first | done | with_reducible rfl | exact rfl)); (try simp only [Act.put, List.setIfInBounds_toArray, List.set_cons_zero, List.set_cons_succ, List.getElem_toArray, List.getElem_cons_zero, List.getElem_cons_succ])
          (refine wpG_ldC (i := 1) [2, 9, 11] (v := ?_) rfl rfl (by kernel_rfl) (by kernel_rfl) (by kernel_rfl) (by kernel_rfl) (fun _ _ _ h => h) (Or.inl ⟨by rfl, ?_⟩) hS ?_; rotate_left; focus (intro w hSw; (try dsimp only at hSw); go_simp; first | done | with_reducible rfl | exact rfl)); (try simp only [Act.put, List.setIfInBounds_toArray, List.set_cons_zero, List.set_cons_succ, List.getElem_toArray, List.getElem_cons_zero, List.getElem_cons_succ])
          (refine wpG_ldC (i := 3) [5, 7, 8, 9, 11] (v := ?_) rfl rfl (by kernel_rfl) (by kernel_rfl) (by kernel_rfl) (by kernel_rfl) (fun _ _ _ h => h) (Or.inl ⟨by rfl, ?_⟩) hS ?_; rotate_left; focus (intro w hSw; (try dsimp only at hSw); go_simp; first | done | with_reducible rfl | exact rfl)); (try simp only [Act.put, List.setIfInBounds_toArray, List.set_cons_zero, List.set_cons_succ, List.getElem_toArray, List.getElem_cons_zero, List.getElem_cons_succ])
          (refine wpG_ldC (i := 4) [5, 7, 8, 9, 11] (v := ?_) rfl rfl (by kernel_rfl) (by kernel_rfl) (by kernel_rfl) (by kernel_rfl) (fun _ _ _ h => h) (Or.inl ⟨by rfl, ?_⟩) hS ?_; rotate_left; focus (intro w hSw; (try dsimp only at hSw); go_simp; first | done | with_reducible rfl | exact rfl)); (try simp only [Act.put, List.setIfInBounds_toArray, List.set_cons_zero, List.set_cons_succ, List.getElem_toArray, List.getElem_cons_zero, List.getElem_cons_succ])
          (refine wpG_ldC (i := 6) [7, 8, 9, 11] (v := ?_) rfl rfl (by kernel_rfl) (by kernel_rfl) (by kernel_rfl) (by kernel_rfl) (fun _ _ _ h => h) (Or.inl ⟨by rfl, ?_⟩) hS ?_; rotate_left; focus (intro w hSw; (try dsimp only at hSw); go_simp; first | done | with_reducible rfl | exact rfl)); (try simp only [Act.put, List.setIfInBounds_toArray, List.set_cons_zero, List.set_cons_succ, List.getElem_toArray, List.getElem_cons_zero, List.getElem_cons_succ])
          refine wpG_mix [2, 5, 7, 8, 9, 10, 11] [80, 83, 85, 86, 87, 17] (fun l vs w => ∃ x80 x83 x85 x86 x87 x17, vs = [x80, x83, x85, x86, x87, x17] ∧ Below w8.heap.size w8 w ∧ (On l 2 → NS w x80 K2 E2 ((val yt + -x) * M)) ∧ (On l 5 → NS w x83 2148 2046 (val yu * val yu)) ∧ (On l 7 → NS w x85 K2 E2 (val yu * val yu * P)) ∧ (On l 8 → NS w x86 K2 E2 (-(val yu * val yu * P))) ∧ (On l 9 → NS w x87 K2 E2 ((val yt + -x) * M + -(val yu * val yu * P))) ∧ (On l 10 → ∃ b, x17 = pt b ∧ w8.heap.size ≤ b ∧ AB w b) ∧ (On l 11 → On l 10 ∧ ∃ b, x17 = pt b ∧ w8.heap.size ≤ b ∧ NB w b K2 E2 ((val yt + -x) * M + -(val yu * val yu * P)))) (by kernel_rfl) ⟨_, _, _, _, _, _, rfl, Below.refl _ _, fun h => off h (by kernel_rfl), fun h => off h (by kernel_rfl), fun h => off h (by kernel_rfl), fun h => off h (by kernel_rfl), fun h => off h (by kernel_rfl), fun h => off h (by kernel_rfl), fun h => off h (by kernel_rfl)⟩ ?_ ⟨?_, ?_, ?_, ?_, ?_, ?_, ?_, trivial⟩ ?_
          · rintro l vs w ⟨x80, x83, x85, x86, x87, x17, rfl, hB, h2, h5, h7, h8, h9, h10, h11⟩
            exact Or.inr ⟨kb_cB hB hS.1, kb_cB hB hS.2.1, kb_cB hB hS.2.2.1, kb_cB hB hS.2.2.2.1, kb_cB hB hS.2.2.2.2.1, kb_cB hB hS.2.2.2.2.2.1, kb_cB hB hS.2.2.2.2.2.2.1, kb_cB hB hS.2.2.2.2.2.2.2.1, kb_cB hB hS.2.2.2.2.2.2.2.2.1, kb_cB hB hS.2.2.2.2.2.2.2.2.2.1, kb_cB hB hS.2.2.2.2.2.2.2.2.2.2.1, kb_cB hB hS.2.2.2.2.2.2.2.2.2.2.2⟩
          · rintro l vs w K hf ha ⟨x80, x83, x85, x86, x87, x17, rfl, hB, h2, h5, h7, h8, h9, h10, h11⟩ hK
            have HK := Lib.hid hK
            clear hK
            refine ⟨_, rfl, ?_⟩
            simp only [puts]
            (try simp only [Act.put, List.setIfInBounds_toArray, List.set_cons_zero, List.set_cons_succ, List.getElem_toArray, List.getElem_cons_zero, List.getElem_cons_succ])
            go_simp
            go_at_call 66
            (with_reducible refine (TA.out _ _ _ (NT.out.below hB) (N10'.out.below (bl_then B8.out hB))).mono ?_)
            rintro e w1 ⟨v, rfl, hv, hb⟩
            have key := HK.out [v, x83, x85, x86, x87, x17] w1 ⟨v, x83, x85, x86, x87, x17, rfl, bl_then hB hb, fun _ => hv, fun h => NS.below (h5 (h.old (by decide))) hb, fun h => NS.below (h7 (h.old (by decide))) hb, fun h => NS.below (h8 (h.old (by decide))) hb, fun h => NS.below (h9 (h.old (by decide))) hb, fun h => ab_grow (h10 (h.old (by decide))) hb, fun h => ⟨(h11 (h.old (by decide))).1.set, nb_grow (h11 (h.old (by decide))).2 hb⟩⟩
            simp only [puts] at key
            (try simp only [Act.put, List.setIfInBounds_toArray, List.set_cons_zero, List.set_cons_succ, List.getElem_toArray, List.getElem_cons_zero, List.getElem_cons_succ] at key)
            exact key
          · rintro l vs w K hf ha ⟨x80, x83, x85, x86, x87, x17, rfl, hB, h2, h5, h7, h8, h9, h10, h11⟩ hK
            have HK := Lib.hid hK
            clear hK
            refine ⟨_, rfl, ?_⟩
            simp only [puts]
            (try simp only [Act.put, List.setIfInBounds_toArray, List.set_cons_zero, List.set_cons_succ, List.getElem_toArray, List.getElem_cons_zero, List.getElem_cons_succ])
            go_simp
            go_at_call 66
            (with_reducible refine (TU.out _ _ (NO.out.below hB)).mono ?_)
            rintro e w1 ⟨v, rfl, hv, hb⟩
            have key := HK.out [x80, v, x85, x86, x87, x17] w1 ⟨x80, v, x85, x86, x87, x17, rfl, bl_then hB hb, fun h => NS.below (h2 (h.old (by decide))) hb, fun _ => hv, fun h => NS.below (h7 (h.old (by decide))) hb, fun h => NS.below (h8 (h.old (by decide))) hb, fun h => NS.below (h9 (h.old (by decide))) hb, fun h => ab_grow (h10 (h.old (by decide))) hb, fun h => ⟨(h11 (h.old (by decide))).1.set, nb_grow (h11 (h.old (by decide))).2 hb⟩⟩
            simp only [puts] at key
            (try simp only [Act.put, List.setIfInBounds_toArray, List.set_cons_zero, List.set_cons_succ, List.getElem_toArray, List.getElem_cons_zero, List.getElem_cons_succ] at key)
            exact key
          · rintro l vs w K hf ha ⟨x80, x83, x85, x86, x87, x17, rfl, hB, h2, h5, h7, h8, h9, h10, h11⟩ hK
            have HK := Lib.hid hK
            clear hK
            refine ⟨_, rfl, ?_⟩
            simp only [puts]
            (try simp only [Act.put, List.setIfInBounds_toArray, List.set_cons_zero, List.set_cons_succ, List.getElem_toArray, List.getElem_cons_zero, List.getElem_cons_succ])
            go_simp
            go_at_call 66
            (with_reducible refine (TP.out _ _ _ (h5 (ha 5 (by kernel_rfl))) (N9'.out.below (bl_then B8.out hB))).mono ?_)
            rintro e w1 ⟨v, rfl, hv, hb⟩
            have key := HK.out [x80, x83, v, x86, x87, x17] w1 ⟨x80, x83, v, x86, x87, x17, rfl, bl_then hB hb, fun h => NS.below (h2 (h.old (by decide))) hb, fun h => NS.below (h5 (h.old (by decide))) hb, fun _ => hv, fun h => NS.below (h8 (h.old (by decide))) hb, fun h => NS.below (h9 (h.old (by decide))) hb, fun h => ab_grow (h10 (h.old (by decide))) hb, fun h => ⟨(h11 (h.old (by decide))).1.set, nb_grow (h11 (h.old (by decide))).2 hb⟩⟩
            simp only [puts] at key
            (try simp only [Act.put, List.setIfInBounds_toArray, List.set_cons_zero, List.set_cons_succ, List.getElem_toArray, List.getElem_cons_zero, List.getElem_cons_succ] at key)
            exact key
          · rintro l vs w K hf ha ⟨x80, x83, x85, x86, x87, x17, rfl, hB, h2, h5, h7, h8, h9, h10, h11⟩ hK
            have HK := Lib.hid hK
            clear hK
            refine ⟨_, rfl, ?_⟩
            simp only [puts]
            (try simp only [Act.put, List.setIfInBounds_toArray, List.set_cons_zero, List.set_cons_succ, List.getElem_toArray, List.getElem_cons_zero, List.getElem_cons_succ])
            go_simp
            go_at_call 64
            (with_reducible refine (minus_s (h7 (ha 7 (by kernel_rfl)))).mono ?_)
            rintro e w1 ⟨v, rfl, hv, hb⟩
            have key := HK.out [x80, x83, x85, v, x87, x17] w1 ⟨x80, x83, x85, v, x87, x17, rfl, bl_then hB hb, fun h => NS.below (h2 (h.old (by decide))) hb, fun h => NS.below (h5 (h.old (by decide))) hb, fun h => NS.below (h7 (h.old (by decide))) hb, fun _ => hv, fun h => NS.below (h9 (h.old (by decide))) hb, fun h => ab_grow (h10 (h.old (by decide))) hb, fun h => ⟨(h11 (h.old (by decide))).1.set, nb_grow (h11 (h.old (by decide))).2 hb⟩⟩
            simp only [puts] at key
            (try simp only [Act.put, List.setIfInBounds_toArray, List.set_cons_zero, List.set_cons_succ, List.getElem_toArray, List.getElem_cons_zero, List.getElem_cons_succ] at key)
            exact key
          · rintro l vs w K hf ha ⟨x80, x83, x85, x86, x87, x17, rfl, hB, h2, h5, h7, h8, h9, h10, h11⟩ hK
            have HK := Lib.hid hK
            clear hK
            refine ⟨_, rfl, ?_⟩
            simp only [puts]
            (try simp only [Act.put, List.setIfInBounds_toArray, List.set_cons_zero, List.set_cons_succ, List.getElem_toArray, List.getElem_cons_zero, List.getElem_cons_succ])
            go_simp
            go_at_call 63
            (with_reducible refine (PN.out _ _ _ (h2 (ha 2 (by kernel_rfl))) (h8 (ha 8 (by kernel_rfl)))).mono ?_)
            rintro e w1 ⟨v, rfl, hv, hb⟩
            have key := HK.out [x80, x83, x85, x86, v, x17] w1 ⟨x80, x83, x85, x86, v, x17, rfl, bl_then hB hb, fun h => NS.below (h2 (h.old (by decide))) hb, fun h => NS.below (h5 (h.old (by decide))) hb, fun h => NS.below (h7 (h.old (by decide))) hb, fun h => NS.below (h8 (h.old (by decide))) hb, fun _ => hv, fun h => ab_grow (h10 (h.old (by decide))) hb, fun h => ⟨(h11 (h.old (by decide))).1.set, nb_grow (h11 (h.old (by decide))).2 hb⟩⟩
            simp only [puts] at key
            (try simp only [Act.put, List.setIfInBounds_toArray, List.set_cons_zero, List.set_cons_succ, List.getElem_toArray, List.getElem_cons_zero, List.getElem_cons_succ] at key)
            exact key
          · rintro l vs w K hf ha ⟨x80, x83, x85, x86, x87, x17, rfl, hB, h2, h5, h7, h8, h9, h10, h11⟩ hK
            have HK := Lib.hid hK
            clear hK
            refine ⟨_, rfl, ?_⟩
            simp only [puts]
            (try simp only [Act.put, List.setIfInBounds_toArray, List.set_cons_zero, List.set_cons_succ, List.getElem_toArray, List.getElem_cons_zero, List.getElem_cons_succ])
            go_simp
            have hb : Below w.heap.size w (w.alloc nilN) := bl_alloc (Below.refl _ _) nilN
            have key := HK.out [x80, x83, x85, x86, x87, pt w.heap.size] (w.alloc nilN) ⟨x80, x83, x85, x86, x87, pt w.heap.size, rfl, bl_then hB hb, fun h => NS.below (h2 (h.old (by decide))) hb, fun h => NS.below (h5 (h.old (by decide))) hb, fun h => NS.below (h7 (h.old (by decide))) hb, fun h => NS.below (h8 (h.old (by decide))) hb, fun h => NS.below (h9 (h.old (by decide))) hb, fun _ => ⟨_, rfl, hB.size, ab_new w⟩, fun h => off (h11 (h.old (by decide))).1 hf⟩
            simp only [puts] at key
            (try simp only [Act.put, List.setIfInBounds_toArray, List.set_cons_zero, List.set_cons_succ, List.getElem_toArray, List.getElem_cons_zero, List.getElem_cons_succ] at key)
            exact key
          · rintro l vs w K hf ha ⟨x80, x83, x85, x86, x87, x17, rfl, hB, h2, h5, h7, h8, h9, h10, h11⟩ hK
            have HK := Lib.hid hK
            clear hK
            refine ⟨_, rfl, ?_⟩
            simp only [puts]
            (try simp only [Act.put, List.setIfInBounds_toArray, List.set_cons_zero, List.set_cons_succ, List.getElem_toArray, List.getElem_cons_zero, List.getElem_cons_succ])
            have n1 := h9 (ha 9 (by kernel_rfl))
            obtain ⟨b, rfl, hbb, ab⟩ := h10 (ha 10 (by kernel_rfl))
            obtain ⟨gp, Ap, mp, cp, ep, rfl⟩ := n1.agg
            obtain ⟨g0, A0, m0, c0, e0, ca0, ca1, ca2, fa0, fa1, fa2⟩ := ab.cells
            go_simp
            have key := HK.out [x80, x83, x85, x86, (.agg #[.bool gp, .slice Ap mp cp, .int .i64 ep]), pt b] (finN w b gp (.slice Ap mp cp) ep) ⟨x80, x83, x85, x86, (.agg #[.bool gp, .slice Ap mp cp, .int .i64 ep]), pt b, rfl, bl_fin hB hbb _ _ _, fun h => NS.fin (h2 (h.old (by decide))) ab _ _ _ _ _, fun h => NS.fin (h5 (h.old (by decide))) ab _ _ _ _ _, fun h => NS.fin (h7 (h.old (by decide))) ab _ _ _ _ _, fun h => NS.fin (h8 (h.old (by decide))) ab _ _ _ _ _, fun h => NS.fin (h9 (h.old (by decide))) ab _ _ _ _ _, fun _ => ⟨b, rfl, hbb, ab.fin ab _ _ _ _ _⟩, fun _ => ⟨(ha 10 (by kernel_rfl)).set, b, rfl, hbb, n1.put ab⟩⟩
            simp only [puts] at key
            (try simp only [Act.put, List.setIfInBounds_toArray, List.set_cons_zero, List.set_cons_succ, List.getElem_toArray, List.getElem_cons_zero, List.getElem_cons_succ] at key)
            exact key
          rintro l vs w9 ha ⟨x80, x83, x85, x86, x87, x17, rfl, hB, h2, h5, h7, h8, h9, h10, h11⟩
          obtain ⟨_, b17, rfl, hb17, nb17⟩ := h11 (ha 11)
          clear h2 h5 h7 h8 h9 h10 h11 ha
          simp only [puts]
          (try simp only [Act.put, List.setIfInBounds_toArray, List.set_cons_zero, List.set_cons_succ, List.getElem_toArray, List.getElem_cons_zero, List.getElem_cons_succ])
          have B9 := Lib.hid (bl_then B8.out hB)
          have N17 := Lib.hid nb17
          have H17 := Lib.hid (Nat.le_trans B8.out.size hb17)
          clear hS nb17 hb17 hB B8
          go_upto_region 19 with (fail)
          obtain ⟨gQ, AQ, mQ, cQ, eQ, kQ, nQ⟩ := N17.out.below (dr_below _)
          have NQ := Lib.hid nQ
          have KQ := Lib.hid kQ
          have BA := Lib.hid (bl_drew B9.out)
          clear nQ kQ N17 B9
          refine wp_region_G (g := 3) (S := fun w' => w'.cell? ⟨b10, 0, none⟩ = some (.bool gn) ∧ w'.cell? ⟨b10, 1, none⟩ = some (.slice An mn cn) ∧ w'.cell? ⟨b10, 2, none⟩ = some (.int .i64 en) ∧ w'.cell? ⟨b17, 0, none⟩ = some (.bool gQ) ∧ w'.cell? ⟨b17, 1, none⟩ = some (.slice AQ mQ cQ) ∧ w'.cell? ⟨b17, 2, none⟩ = some (.int .i64 eQ)) (by kernel_rfl) ?_
          obtain ⟨wa, hwa⟩ : ∃ w, w9.drew = w := ⟨_, rfl⟩
          rw [hwa] at BA NQ KQ
          simp only [hwa]
          clear hwa
          have hS : wa.cell? ⟨b10, 0, none⟩ = some (.bool gn) ∧ wa.cell? ⟨b10, 1, none⟩ = some (.slice An mn cn) ∧ wa.cell? ⟨b10, 2, none⟩ = some (.int .i64 en) ∧ wa.cell? ⟨b17, 0, none⟩ = some (.bool gQ) ∧ wa.cell? ⟨b17, 1, none⟩ = some (.slice AQ mQ cQ) ∧ wa.cell? ⟨b17, 2, none⟩ = some (.int .i64 eQ) := ⟨kb_cell (kb_keep BA.out K10.out) (i := 0) rfl, kb_cell (kb_keep BA.out K10.out) (i := 1) rfl, kb_cell (kb_keep BA.out K10.out) (i := 2) rfl, kb_cell KQ.out (i := 0) rfl, kb_cell KQ.out (i := 1) rfl, kb_cell KQ.out (i := 2) rfl⟩
          (refine wpG_ldC (i := 0) [2, 3] (v := ?_) rfl rfl (by kernel_rfl) (by kernel_rfl) (by kernel_rfl) (by kernel_rfl) (fun _ _ _ h => h) (Or.inl ⟨by rfl, ?_⟩) hS ?_; rotate_left; focus (intro w hSw; (try dsimp only at hSw); go_simp; first | done | with_reducible rfl | exact rfl)); (try simp only [Act.put, List.setIfInBounds_toArray, List.set_cons_zero, List.set_cons_succ, List.getElem_toArray, List.getElem_cons_zero, List.getElem_cons_succ])
          (refine wpG_ldC (i := 1) [3] (v := ?_) rfl rfl (by kernel_rfl) (by kernel_rfl) (by kernel_rfl) (by kernel_rfl) (fun _ _ _ h => h) (Or.inl ⟨by rfl, ?_⟩) hS ?_; rotate_left; focus (intro w hSw; (try dsimp only at hSw); go_simp; first | done | with_reducible rfl | exact rfl)); (try simp only [Act.put, List.setIfInBounds_toArray, List.set_cons_zero, List.set_cons_succ, List.getElem_toArray, List.getElem_cons_zero, List.getElem_cons_succ])
          have ca0 := kb_cell (kb_keep BA.out K9.out) (i := 0) rfl
          have ca1 := kb_cell (kb_keep BA.out K9.out) (i := 1) rfl
          have ca2 := kb_cell (kb_keep BA.out K9.out) (i := 2) rfl
          have fa0 := kb_frozen (kb_keep BA.out K9.out) 0
          have fa1 := kb_frozen (kb_keep BA.out K9.out) 1
          have fa2 := kb_frozen (kb_keep BA.out K9.out) 2
          have NE : Hid (b10 ≠ b9 ∧ b17 ≠ b9) := Lib.hid ⟨Ne.symm Q3.out.ne, by have := kb_lt K9.out; have := H17.out; omega⟩
          have k10 : (finN wa b9 gn (.slice An mn cn) en).heap[b10]? = some (.cells #[.bool gn, .slice An mn cn, .int .i64 en] 50 (0, 0)) := by rw [fin_far NE.out.1]; exact kb_keep BA.out K10.out
          have k17 : (finN wa b9 gn (.slice An mn cn) en).heap[b17]? = some (.cells #[.bool gQ, .slice AQ mQ cQ, .int .i64 eQ] 50 (0, 0)) := by rw [fin_far NE.out.2]; exact KQ.out
          have HS2 : Hid ((finN wa b9 gn (.slice An mn cn) en).cell? ⟨b10, 0, none⟩ = some (.bool gn) ∧ (finN wa b9 gn (.slice An mn cn) en).cell? ⟨b10, 1, none⟩ = some (.slice An mn cn) ∧ (finN wa b9 gn (.slice An mn cn) en).cell? ⟨b10, 2, none⟩ = some (.int .i64 en) ∧ (finN wa b9 gn (.slice An mn cn) en).cell? ⟨b17, 0, none⟩ = some (.bool gQ) ∧ (finN wa b9 gn (.slice An mn cn) en).cell? ⟨b17, 1, none⟩ = some (.slice AQ mQ cQ) ∧ (finN wa b9 gn (.slice An mn cn) en).cell? ⟨b17, 2, none⟩ = some (.int .i64 eQ)) := Lib.hid ⟨kb_cell k10 (i := 0) rfl, kb_cell k10 (i := 1) rfl, kb_cell k10 (i := 2) rfl, kb_cell k17 (i := 0) rfl, kb_cell k17 (i := 1) rfl, kb_cell k17 (i := 2) rfl⟩
          have KF := Lib.hid k10
          clear k10 k17
          refine wpG_one (i := 2) (by kernel_rfl) rfl (fun K hK => ?_); have HK := Lib.hid hK; clear hK
          go_simp
          refine HK.out _ _ (Or.inr HS2.out) ?_
          clear HK K hS ca0 ca1 ca2 fa0 fa1 fa2
          have NX : Hid (PH W (finN (finN wa b9 gn (.slice An mn cn) en) b10 gQ (.slice AQ mQ cQ) eQ) #[.slice (some ad) d.length cA, .slice (some bd) o.length cB] #[.bool gx, .slice Ax mx cx, .int .i64 ex] x D O (i + 1) (St.stp (decide (i + 1 = D.length)) (nI x D O i q) q) b9 b10) := Lib.hid (Q3.out.swap HL.out HMO.out BA.out K10.out N10.out (by rw [HK2.out, HE2.out, HM.out, HP.out, ← GT.out, ← GU.out, Int.sub_eq_add_neg]; exact NQ.out) (by rw [← GT.out, Int.sub_eq_add_neg]; exact BT.out) (by rw [← GU.out]; exact BU.out))
          have ca0 := kb_cell KF.out (i := 0) rfl
          have ca1 := kb_cell KF.out (i := 1) rfl
          have ca2 := kb_cell KF.out (i := 2) rfl
          have fa0 := kb_frozen KF.out 0
          have fa1 := kb_frozen KF.out 1
          have fa2 := kb_frozen KF.out 2
          refine wpG_one (i := 3) (by kernel_rfl) rfl (fun K hK => ?_); have HK := Lib.hid hK; clear hK; go_simp; refine HK.out _ _ (Or.inl (by kernel_rfl)) ?_; clear HK K; (try simp only [Act.put, List.setIfInBounds_toArray, List.set_cons_zero, List.set_cons_succ, List.getElem_toArray, List.getElem_cons_zero, List.getElem_cons_succ])
          refine wpG_done (by kernel_rfl) ?_ _
          go_wp2
          go_roundw
          case rel => exact ⟨i + 1, _, _, rfl, rfl, by go_num, by omega, Lib.hid ⟨_, by rw [decide_eq_false HLA.out]; exact SV2.out.1, by rw [decide_eq_false HLA.out]; exact SV2.out.2, NX.out⟩⟩
          case measure => simp [intOf]; omega
    · have l1 : decide (i < n) = false := decide_eq_false hlt
      obtain ⟨q, hq1, hq2, hq3⟩ := hq.out
      have Q1 := Lib.hid hq1
      have Q3 := Lib.hid hq3
      have HNL := Lib.hid hlt
      clear hq hq1 hq2 hq3 hlt
      go_wp2
      refine bodyPost_ret (v := .int .i64 c) (by simp [results, Tryd.results45, go_sem]) rfl ?_
      have hr := Q3.out.run
      rw [List.drop_of_length_le (by rw [St.rw_len, HDL.out]; have := HNL.out; omega)] at hr
      have hr : q = St.run (St.rw_ x 0 D O) St.S0 := hr
      exact ⟨by unfold St.prt; rw [← hr, Q1.out], Q3.out.below⟩
end Go.Proofs.YtaedkekjekbjmaaDoor

/- girderref17.Below, girderref17.Exact. -/
namespace Go.Proofs.YtaedkekjekbjmaaDoor
open Go Go.RowKit Nv GFl Ieee
open Go.Proofs.YtaedkekjekbjmaaDoorW.PrintWords (Kd)
set_option maxRecDepth 100000
set_option linter.unusedSimpArgs false

/-- What holds at the head of Below's loop. -/
structure BJ (W w : World) (d o : List Nat) (X : Int) (k f : Nat) (c : Int) : Prop where
  below : Below W.heap.size W w
  fk : f ≤ k
  c0 : 0 ≤ c
  c1 : c ≤ f
  tot : c + St.cnt X ((d.map val).drop f) ((o.map val).drop f) = St.cnt X (d.map val) (o.map val)
  nz : ∀ j, f ≤ j → j < k → ∀ h : j < o.length, val o[j] ≠ 0
  en : k = d.length → f = k
theorem BJ.skip {W w : World} {d o : List Nat} {X : Int} {k f : Nat} {c : Int} (h : BJ W w d o X k f c) (hl : d.length = o.length + 1) (hko : k < o.length) (hk : ∀ h : k < o.length, val o[k] ≠ 0) : BJ W w d o X (k + 1) f c :=
  ⟨h.below, by have := h.fk; omega, h.c0, h.c1, h.tot, fun j h1 h2 h3 => by
    rcases Nat.lt_or_ge j k with h4 | h4
    · exact h.nz j h1 h4 h3
    · obtain rfl : j = k := by omega
      exact hk h3, fun h => by omega⟩
theorem BJ.cut {W w w' : World} {d o : List Nat} {X : Int} {k f : Nat} {c : Int} (h : BJ W w d o X k f c) (hl : d.length = o.length + 1) (hk : k < d.length) (hz : ∀ h : k < o.length, val o[k] = 0) (hb : Below w.heap.size w w') :
    BJ W w' d o X (k + 1) (k + 1) (c + St.prt X ((d.map val |>.take (k + 1)).drop f) ((o.map val |>.take k).drop f)) := by
  obtain ⟨p1, p2, p3⟩ := piece X (d.map val) (o.map val) k f (by simpa using hl) (by simpa using hk) h.fk (fun h' => by rw [List.getElem_map]; exact hz (by simpa using h')) (fun j h1 h2 h3 => by rw [List.getElem_map]; exact h.nz j h1 h2 (by simpa using h3))
  refine ⟨bl_then h.below hb, Nat.le_refl _, by have := h.c0; omega, by have := h.c1; omega, ?_, fun j h1 h2 _ => by omega, fun _ => rfl⟩
  have := h.tot
  omega
theorem BJ.prt {W w : World} {d o : List Nat} {X : Int} {k f : Nat} {c : Int} (h : BJ W w d o X k f c) (hl : d.length = o.length + 1) (hk : k < d.length) (hz : ∀ h : k < o.length, val o[k] = 0) (hn : d.length ≤ 64) :
    0 ≤ St.prt X ((d.map val |>.take (k + 1)).drop f) ((o.map val |>.take k).drop f) ∧ St.prt X ((d.map val |>.take (k + 1)).drop f) ((o.map val |>.take k).drop f) ≤ 64 := by
  obtain ⟨p1, p2, p3⟩ := piece X (d.map val) (o.map val) k f (by simpa using hl) (by simpa using hk) h.fk (fun h' => by rw [List.getElem_map]; exact hz (by simpa using h')) (fun j h1 h2 h3 => by rw [List.getElem_map]; exact h.nz j h1 h2 (by simpa using h3))
  exact ⟨p2, by omega⟩
theorem part_at {A B : Option Addr} {cA cB : Nat} {d o : List Nat} {xv : Value} {X : Int} {W w : World} (hd : Fl W A d) (ho : Fl W B o) (cd : ∀ x ∈ d, Cf x) (co : ∀ x ∈ o, Cf x) (hl : d.length = o.length + 1) (hn : d.length ≤ 64) (hx : NS W xv 1074 1023 X) (bx : Bd 1577 X) (hb : Below W.heap.size W w) (k f : Nat) (hk : k < d.length) (hf : f ≤ k) :
    Calls Tryd.prog 45 #[.agg #[.slice A d.length cA, .slice B o.length cB], .int .i64 f, .int .i64 ((k + 1 - f : Nat) : Int), xv] w fun e w' => e = .returned (.int .i64 (St.prt X ((d.map val |>.take (k + 1)).drop f) ((o.map val |>.take k).drop f))) ∧ Below w.heap.size w w' := by
  refine part_h A B cA cB d o f (k + 1 - f) xv X _ _ (hd.below hb) (ho.below hb) cd co (hx.below hb) (by omega) (by omega) (by omega) (by omega) (by omega) (by simp; omega) (by simp; omega) (fun i h1 h2 => ?_) (fun i h1 h2 => ?_) bx
  · rw [List.getD_eq_getElem?_getD, List.getElem?_drop, List.getElem?_take, if_pos (by omega), List.getElem?_map, List.getElem?_eq_getElem h1]; rfl
  · rw [List.getD_eq_getElem?_getD, List.getElem?_drop, List.getElem?_take, if_pos (by omega), List.getElem?_map, List.getElem?_eq_getElem h1]; rfl
set_option maxHeartbeats 4000000 in
theorem belowR_c (A B : Option Addr) (cA cB : Nat) (d o : List Nat) (xv : Value) (X : Int) (W : World) (hd : Fl W A d) (ho : Fl W B o) (cd : ∀ x ∈ d, Cf x) (co : ∀ x ∈ o, Cf x) (hl : d.length = o.length + 1) (hn : d.length ≤ 64) (hx : NS W xv 1074 1023 X) (bx : Bd 1577 X) :
    Calls Tryd.prog 26 #[.agg #[.slice A d.length cA, .slice B o.length cB], xv] W fun e w' => e = .returned (.int .i64 (St.cnt X (d.map val) (o.map val))) ∧ Below W.heap.size W w' := by
  obtain ⟨gx, Ax, mx, cx, ex, rfl⟩ := hx.agg
  have HD := Lib.hid hd
  have HO := Lib.hid ho
  have CD := Lib.hid cd
  have CO := Lib.hid co
  have HL := Lib.hid hl
  have BX := Lib.hid bx
  have HX := Lib.hid hx
  have PC : Hid (∀ w, Below W.heap.size W w → ∀ k f, k < d.length → f ≤ k → Calls Tryd.prog 45 #[.agg #[.slice A d.length cA, .slice B o.length cB], .int .i64 f, .int .i64 ((k + 1 - f : Nat) : Int), .agg #[.bool gx, .slice Ax mx cx, .int .i64 ex]] w fun e w' => e = .returned (.int .i64 (St.prt X ((d.map val |>.take (k + 1)).drop f) ((o.map val |>.take k).drop f))) ∧ Below w.heap.size w w') := Lib.hid (fun w hb k f h1 h2 => part_at hd ho cd co hl hn hx bx hb k f h1 h2)
  clear hd ho cd co hl hx bx
  have HK := Lib.hid (two_blk3 W (.cells #[.slice A d.length cA, .slice B o.length cB] 24) (.cells #[.bool gx, .slice Ax mx cx, .int .i64 ex] 50))
  have B0 : Hid (Below W.heap.size W ((W.alloc (.cells #[.slice A d.length cA, .slice B o.length cB] 24)).alloc (.cells #[.bool gx, .slice Ax mx cx, .int .i64 ex] 50))) := Lib.hid (by repeat' (first | (with_reducible exact Below.refl _ _) | (with_reducible refine bl_alloc ?_ _) | (with_reducible refine bl_drewN ?_ _) | (with_reducible refine bl_drew ?_) | (with_reducible refine bl_set ?_ _ (by simp))))
  have P0 : Hid (BJ W ((W.alloc (.cells #[.slice A d.length cA, .slice B o.length cB] 24)).alloc (.cells #[.bool gx, .slice Ax mx cx, .int .i64 ex] 50)) d o X 0 0 0) := Lib.hid ⟨B0.out, Nat.le_refl _, Int.le_refl _, Int.le_refl _, by simp, fun j _ h2 => by omega, fun h => h ▸ rfl⟩
  go_enter Tryd.func26, Tryd.ntmps26
  go_wp2_with fail
  obtain ⟨w1, hw1⟩ : ∃ w, ((W.alloc (.cells #[.slice A d.length cA, .slice B o.length cB] 24)).alloc (.cells #[.bool gx, .slice Ax mx cx, .int .i64 ex] 50)) = w := ⟨_, rfl⟩
  rw [hw1] at HK B0 P0
  simp only [hw1]
  clear hw1
  go_loopw [5, 6, 7] (fun v5 v6 v7 wr => ∃ (k f : Nat) (c : Int), v5 = .int .i64 c ∧ v6 = .int .i64 f ∧ v7 = .int .i64 k ∧ k ≤ d.length ∧ Hid (BJ W wr d o X k f c ∧ Below w1.heap.size w1 wr)) (fun _ _ v _ => d.length - (intOf v).toNat)
  case atStart => exact ⟨0, 0, 0, rfl, rfl, rfl, Nat.zero_le _, Lib.hid ⟨P0.out, Below.refl _ _⟩⟩
  case round =>
    obtain ⟨k, f, c, rfl, rfl, rfl, hk, hq⟩ := hrel
    clear P0
    by_cases hlt : k < d.length
    · have l1 : decide (k < d.length) = true := decide_eq_true hlt
      have hb2 := kb_keep hq.out.2 HK.out.1
      have hb3 := kb_keep hq.out.2 HK.out.2
      have cc0 := kb_cell hb2 (i := 0) rfl
      have cc1 := kb_cell hb2 (i := 1) rfl
      have cx0 := kb_cell hb3 (i := 0) rfl
      have cx1 := kb_cell hb3 (i := 1) rfl
      have cx2 := kb_cell hb3 (i := 2) rfl
      have c0 := hq.out.1.c0
      have c1 : c ≤ 64 := by have := hq.out.1.c1; have := hq.out.1.fk; omega
      have fk := hq.out.1.fk
      clear hb2 hb3
      have hw1 : IntKind.i64.wrap ((k : Int) + 1) = (k : Int) + 1 := by rw [IntKind.wrap_i64]; omega
      obtain ⟨n, hn1⟩ : ∃ n : Nat, k + 1 - f = n := ⟨_, rfl⟩
      have hw2 : IntKind.i64.wrap ((k : Int) + 1 - (f : Int)) = (n : Int) := by rw [IntKind.wrap_i64]; omega
      have pc := PC.out wr hq.out.1.below k f hlt fk
      rw [hn1] at pc
      rcases Nat.lt_or_ge k o.length with hko | hko
      · obtain ⟨bd, hB0, hc⟩ := HO.out.at hko
        subst hB0
        have hcell2 : wr.cell? (bd.add k) = some (.float .f64 o[k]) := (hq.out.1.below.cell (World.block_lt_of_cell? W _ hc)).trans hc
        have t0 := (CO.out _ (List.getElem_mem hko)).eq0
        have l2 : ((k : Int) == (o.length : Int)) = false := by rw [beq_eq_false_iff_ne]; omega
        have l3 : (k == o.length) = false := by rw [beq_eq_false_iff_ne]; omega
        clear hc
        by_cases hz : val o[k] = 0
        · rw [decide_eq_true hz] at t0
          have HZ : Hid (∀ h : k < o.length, val o[k] = 0) := Lib.hid (fun _ => hz)
          clear hz
          have p2 := hq.out.1.prt HL.out hlt HZ.out hn
          have BIF : Hid (∀ w', Below wr.heap.size wr w' → BJ W w' d o X (k + 1) (k + 1) (c + St.prt X ((d.map val |>.take (k + 1)).drop f) ((o.map val |>.take k).drop f))) := Lib.hid (fun w' h => hq.out.1.cut HL.out hlt HZ.out h)
          obtain ⟨P, hP⟩ : ∃ P, St.prt X ((d.map val |>.take (k + 1)).drop f) ((o.map val |>.take k).drop f) = P := ⟨_, rfl⟩
          rw [hP] at p2 BIF pc
          have PC1 := Lib.hid pc
          obtain ⟨p3, p4⟩ := p2
          have hw3 : IntKind.i64.wrap (c + P) = c + P := by rw [IntKind.wrap_i64]; omega
          clear hP pc
          go_wp2_with (go_at_call 45; (with_reducible refine (PC1.out).mono ?_); rintro e w2 ⟨rfl, hb⟩; have HB2 := Lib.hid hb; clear hb)
          go_roundw
          case rel => exact ⟨k + 1, k + 1, c + P, rfl, by go_num, by go_num, by omega, Lib.hid ⟨BIF.out _ HB2.out, bl_then hq.out.2 HB2.out⟩⟩
          case measure => simp [intOf]; omega
        · rw [decide_eq_false hz] at t0
          have BS := Lib.hid (hq.out.1.skip HL.out hko (fun _ => hz))
          clear hz pc
          go_wp2
          go_roundw
          case rel => exact ⟨k + 1, f, c, rfl, rfl, by go_num, by omega, Lib.hid ⟨BS.out, hq.out.2⟩⟩
          case measure => simp [intOf]; omega
      · have l2 : ((k : Int) == (o.length : Int)) = true := by rw [beq_iff_eq]; have := HL.out; omega
        have l3 : (k == o.length) = true := by rw [beq_iff_eq]; have := HL.out; omega
        have HZ : Hid (∀ h : k < o.length, val o[k] = 0) := Lib.hid (fun h => absurd h (by omega))
        have p2 := hq.out.1.prt HL.out hlt HZ.out hn
        have BIF : Hid (∀ w', Below wr.heap.size wr w' → BJ W w' d o X (k + 1) (k + 1) (c + St.prt X ((d.map val |>.take (k + 1)).drop f) ((o.map val |>.take k).drop f))) := Lib.hid (fun w' h => hq.out.1.cut HL.out hlt HZ.out h)
        obtain ⟨P, hP⟩ : ∃ P, St.prt X ((d.map val |>.take (k + 1)).drop f) ((o.map val |>.take k).drop f) = P := ⟨_, rfl⟩
        rw [hP] at p2 BIF pc
        have PC1 := Lib.hid pc
        obtain ⟨p3, p4⟩ := p2
        have hw3 : IntKind.i64.wrap (c + P) = c + P := by rw [IntKind.wrap_i64]; omega
        clear hP pc
        go_wp2_with (go_at_call 45; (with_reducible refine (PC1.out).mono ?_); rintro e w2 ⟨rfl, hb⟩; have HB2 := Lib.hid hb; clear hb)
        go_roundw
        case rel => exact ⟨k + 1, k + 1, c + P, rfl, by go_num, by go_num, by omega, Lib.hid ⟨BIF.out _ HB2.out, bl_then hq.out.2 HB2.out⟩⟩
        case measure => simp [intOf]; omega
    · have l1 : decide (k < d.length) = false := decide_eq_false hlt
      have fin : c = St.cnt X (d.map val) (o.map val) := by
        have h1 := hq.out.1.tot
        have h2 := hq.out.1.en (by omega)
        rw [List.drop_of_length_le (l := d.map val) (by simp; omega)] at h1
        rw [← h1, show St.cnt X [] ((o.map val).drop f) = 0 from rfl, Int.add_zero]
      have FIN := Lib.hid fin
      have BL := Lib.hid hq.out.1.below
      have hb2 := kb_keep hq.out.2 HK.out.1
      have cc0 := kb_cell hb2 (i := 0) rfl
      clear fin hq hb2
      go_wp2
      go_ret
      exact ⟨ret_int FIN.out, BL.out⟩
end Go.Proofs.YtaedkekjekbjmaaDoor

/- Plain laws: whole numbers as floats, their roots, what the root leaves. No program. -/
namespace GFl
open Ieee Go

/-- A whole number as a float. -/
theorem int_float {n : Nat} (h1 : 1 ≤ n) (h2 : n < 9007199254740992) : ∃ x, floatOfInt .f64 (n : Int) = x ∧ W64 x ∧ neg x = false ∧ 4607182418800017408 ≤ rg x ∧ rg x < 4845873199050653696 ∧ mg B52 (rg x) = n * p2 1074 := by
  obtain ⟨z, hz, hw, hn, hf, hm⟩ := ofNat64 h2
  refine ⟨z, ?_, hw, hn, ?_, ?_, hm⟩
  · unfold floatOfInt FloatKind.nearest FloatKind.encode FloatKind.format
    have h1 : ¬ (n : Int) < 0 := by omega
    simp only [h1, decide_false, Int.natAbs_natCast]
    exact hz
  · rw [← mg_le_iff (B := B52) B52_pos, hm]
    have := one_mg
    rw [one_rg] at this
    rw [this]
    exact Nat.le_mul_of_pos_left _ h1
  · rw [← mg_lt_iff (B := B52) B52_pos, hm]
    have e : mg B52 4845873199050653696 = B52 * p2 1075 := mg_B 1076 0 (by decide) (by decide)
    rw [e, show (1075 : Nat) = 1 + 1074 from rfl, p2_add, ← Nat.mul_assoc]
    exact Nat.mul_lt_mul_of_pos_right (by rw [show B52 * p2 1 = 9007199254740992 by decide +kernel]; exact h2) (p2_pos _)
end GFl

/- Slices of lists of floats; a chain's blocks. -/
namespace Go.Proofs.YtaedkekjekbjmaaDoor
open Go Go.RowKit Nv GFl Ieee
open Go.Proofs.YtaedkekjekbjmaaDoorW.PrintWords (own_move own_ne own_lt print_append_cells Kd)
set_option maxRecDepth 100000

theorem cut_top {P : Program} (t e : TypeId) (kh : IntKind) {i : TypeInfo} (ht : P.underlying t = some (.slice e)) (hi : P.info? e = some i) (A : Option Addr) (n c : Nat) (j : Int) (h0 : 0 ≤ j) (hm : j ≤ c) :
    ∀ W : World, (Instr.slice t (.slice A n c) none (some (.int kh j)) none).run P W = .ok (.slice A j.toNat c) W := by
  intro W
  have hel : P.elem t = e := by simp [Program.elem, ht]
  have hu : P.underlying t = some (.slice (P.elem t)) := by rw [hel]; exact ht
  have ha : (A.map fun x => x.add 0) = A := by cases A <;> simp [Addr.add]
  rw [run_slice_h W t A n c hu kh j h0 (by omega), hel]
  simp [sizeOf, typeInfo, hi, sliced, Result.andThen, ha]
theorem Fl.take_ {w : World} {A : Option Addr} {l : List Nat} (h : Fl w A l) (k : Nat) : Fl w A (l.take k) := by
  have hl : l.length ≤ 9223372036854775807 := h.2.1
  refine Fl.mk (by simp; omega) (fun h0 => ?_)
  obtain ⟨ad, e, _⟩ := h.at (i := 0) (by simp at h0; omega)
  refine ⟨ad, e, fun i hi => ?_⟩
  simp at hi
  obtain ⟨ad', e', hc⟩ := h.at (i := i) (by omega)
  rw [e] at e'
  injection e' with e'
  subst e'
  rw [hc]; simp
theorem heap_other' {w : World} {g k : Nat} (h : k ≠ g) (i : Nat) (u : Value) : (w.setCell ⟨g, i, none⟩ u).heap[k]? = w.heap[k]? := by
  simp [World.setCell, Array.getElem?_modify, Ne.symm h]
theorem LW.off {W w : World} {bq n : Nat} {vD vO : Value} {D O : List Nat} (h : LW W w bq vD vO D O) (hl : O.length = n) (h0 : 0 < n) : ∃ g c, vO = .slice (some ⟨g, 0, none⟩) n c ∧ n ≤ c := by
  obtain ⟨A, c, e, hc, f⟩ := ow_sl h.o
  have ho := h.o
  obtain ⟨h1, h2⟩ := ho
  rcases h2 with h2 | ⟨g, cap, cur, e2, _⟩
  · exact absurd h2.2 (by omega)
  · rw [e] at e2
    injection e2 with e3 e4 e5
    subst e3
    rw [hl] at e hc
    exact ⟨g, c, e, hc⟩
/-- Three chains told, each in a block of its own. -/
structure PT (W w : World) (b0 b1 b2 : Nat) (c0 c1 c2 : Array Value) : Prop where
  b : Below W.heap.size W w
  k0 : w.heap[b0]? = some (.cells c0 24 (0, 0))
  k1 : w.heap[b1]? = some (.cells c1 24 (0, 0))
  k2 : w.heap[b2]? = some (.cells c2 24 (0, 0))
theorem PT.then {W w w' : World} {b0 b1 b2 : Nat} {c0 c1 c2 : Array Value} (h : PT W w b0 b1 b2 c0 c1 c2) (hb : Below w.heap.size w w') : PT W w' b0 b1 b2 c0 c1 c2 := ⟨bl_then h.b hb, kb_keep hb h.k0, kb_keep hb h.k1, kb_keep hb h.k2⟩
end Go.Proofs.YtaedkekjekbjmaaDoor

/- girderkit: lists of floats lent, kept, written over; held against one another. -/
namespace Go.Proofs.YtaedkekjekbjmaaDoor
open Go Go.RowKit Nv GFl Ieee
open Go.Proofs.YtaedkekjekbjmaaDoorW.PrintWords (own_move own_ne own_lt Kd)
set_option maxRecDepth 100000
set_option linter.unusedSimpArgs false
attribute [local go_sem] run_f64bits run_f64frombits run_neg_f64 run_store_float
theorem two_blk' (w : World) (o o' : Obj) : ((w.alloc o).alloc o').heap[w.heap.size]? = some o ∧ ((w.alloc o).alloc o').heap[w.heap.size + 1]? = some o' := by
  refine ⟨kb_alloc (kb_new (Below.refl _ _)), ?_⟩
  have := kb_new (w := w.alloc o) (o := o') (Below.refl _ _)
  simpa using this
theorem sameF_self (x : Nat) : sameF x x = true := (sameF_eq rfl).symm
theorem same_reals_c (A B : Option Addr) (cA cB : Nat) (l : List Nat) (W : World) (h1 : Fl W A l) (h2 : Fl W B l) (wl : ∀ x ∈ l, W64 x) :
    Calls Tryd.prog 48 #[.slice A l.length cA, .slice B l.length cB] W fun e w' => e = .returned (.bool true) ∧ ∃ m, w' = W.drewN m := by
  have H1 := Lib.hid h1
  have H2 := Lib.hid h2
  have WL := Lib.hid wl
  have hm := h1.2.1
  clear h1 h2 wl
  have k0 : ((l.length : Int) != (l.length : Int)) = false := by simp
  go_enter Tryd.func48, Tryd.ntmps48
  go_wp2
  go_loopw [5] (fun v5 wr => ∃ i : Nat, v5 = .int .i64 i ∧ i ≤ l.length ∧ Hid (∃ m, wr = W.drewN m)) (fun v _ => l.length - (intOf v).toNat)
  case atStart => exact ⟨0, rfl, Nat.zero_le _, Lib.hid ⟨0, rfl⟩⟩
  case round =>
    obtain ⟨i, rfl, hi, hq⟩ := hrel
    by_cases hlt : i < l.length
    · have l1 : decide (i < l.length) = true := decide_eq_true hlt
      obtain ⟨ad, hA, d0⟩ := H1.out.at hlt
      obtain ⟨bd, hB, d1⟩ := H2.out.at hlt
      subst hA
      subst hB
      have d0' : wr.cell? (ad.add i) = some (.float .f64 l[i]) := by obtain ⟨m, e⟩ := hq.out; rw [e]; exact d0
      have d1' : wr.cell? (bd.add i) = some (.float .f64 l[i]) := by obtain ⟨m, e⟩ := hq.out; rw [e]; exact d1
      have wy := WL.out _ (List.getElem_mem hlt)
      obtain ⟨y, hy⟩ : ∃ y, l[i] = y := ⟨_, rfl⟩
      rw [hy] at d0' d1' wy
      have SF : Hid (∀ w, Calls Tryd.prog 18 #[.float .f64 y, .float .f64 y] w fun e w' => e = .returned (.bool true) ∧ w' = w) := Lib.hid (fun w => by have := sameFloat_c y y wy wy w; rw [sameF_self] at this; exact this)
      have j0 : (0 : Int) ≤ (i : Int) := by omega
      have j1 : (i : Int) < (l.length : Int) := by omega
      have j2 : IntKind.i64.wrap ((i : Int) + 1) = (i : Int) + 1 := by rw [IntKind.wrap_i64]; omega
      have HI : Hid (i + 1 ≤ l.length) := Lib.hid (by omega)
      clear d0 d1 hy hlt wy
      go_wp2
      go_quiet ((go_at_call 18; refine Calls.quiet_of_same (SF.out _)))
      go_wp2
      go_roundw
      case rel => exact ⟨i + 1, by go_num, HI.out, Lib.hid (by obtain ⟨m, e⟩ := hq.out; exact ⟨m + nq, by rw [e, World.drewN_drewN]⟩)⟩
      case measure => have := HI.out; simp [intOf]; omega
    · have l1 : decide (i < l.length) = false := decide_eq_false hlt
      clear hlt
      go_wp2
      go_ret
      exact ⟨rfl, hq.out⟩
theorem same_chain_c (A B A' B' : Option Addr) (cA cB cA' cB' : Nat) (l m : List Nat) (W : World) (h1 : Fl W A l) (h2 : Fl W A' l) (h3 : Fl W B m) (h4 : Fl W B' m) (wl : ∀ x ∈ l, W64 x) (wm : ∀ x ∈ m, W64 x) :
    Calls Tryd.prog 28 #[.agg #[.slice A l.length cA, .slice B m.length cB], .agg #[.slice A' l.length cA', .slice B' m.length cB']] W fun e w' => e = .returned (.bool true) ∧ Below W.heap.size W w' := by
  have s1 : ∀ w, Below W.heap.size W w → Calls Tryd.prog 48 #[.slice A l.length cA, .slice A' l.length cA'] w fun e w' => e = .returned (.bool true) ∧ ∃ m, w' = w.drewN m := fun w h => same_reals_c A A' cA cA' l w (h1.below h) (h2.below h) wl
  have s2 : ∀ w, Below W.heap.size W w → Calls Tryd.prog 48 #[.slice B m.length cB, .slice B' m.length cB'] w fun e w' => e = .returned (.bool true) ∧ ∃ m, w' = w.drewN m := fun w h => same_reals_c B B' cB cB' m w (h3.below h) (h4.below h) wm
  have S1 := Lib.hid s1
  have S2 := Lib.hid s2
  clear s1 s2 h1 h2 h3 h4 wl wm
  go_enter Tryd.func28, Tryd.ntmps28
  have B0 : Hid (Below W.heap.size W ((W.alloc (.cells #[.slice A l.length cA, .slice B m.length cB] 24)).alloc (.cells #[.slice A' l.length cA', .slice B' m.length cB'] 24))) := Lib.hid (by repeat' (first | (with_reducible exact Below.refl _ _) | (with_reducible refine bl_alloc ?_ _) | (with_reducible refine bl_drewN ?_ _) | (with_reducible refine bl_drew ?_) | (with_reducible refine bl_set ?_ _ (by simp))))
  obtain ⟨k0, k1⟩ := two_blk' W (.cells #[.slice A l.length cA, .slice B m.length cB] 24) (.cells #[.slice A' l.length cA', .slice B' m.length cB'] 24)
  have c0 := kb_cell k0 (i := 0) rfl
  have c1 := kb_cell k0 (i := 1) rfl
  have c2 := kb_cell k1 (i := 0) rfl
  have c3 := kb_cell k1 (i := 1) rfl
  go_wp2_with (first
    | (go_at_call 48; (with_reducible (first | refine (S1.out _ B0.out).mono ?_ | refine (S2.out _ B0.out).mono ?_)); rintro e w7 ⟨rfl, m, rfl⟩; have B0 := Lib.hid (bl_drewN B0.out m); have c0 := kb_cell k0 (i := 0) rfl))
  go_ret
  exact ⟨rfl, by repeat' (first | (with_reducible exact Below.refl _ _) | (with_reducible refine bl_alloc ?_ _) | (with_reducible refine bl_drewN ?_ _) | (with_reducible refine bl_drew ?_) | (with_reducible refine bl_set ?_ _ (by simp)))⟩
end Go.Proofs.YtaedkekjekbjmaaDoor

/- girderkit: lists of floats lent with marks behind their ends, kept, written over. -/
namespace Go.Proofs.YtaedkekjekbjmaaDoor
open Go Go.RowKit Nv GFl Ieee
open Go.Proofs.YtaedkekjekbjmaaDoorW.PrintWords (own_move own_ne own_lt Kd)
set_option maxRecDepth 100000
set_option linter.unusedSimpArgs false
attribute [local go_sem] run_f64bits run_f64frombits run_neg_f64 run_store_float
theorem add_blk (b k : Nat) : (⟨b, 0, none⟩ : Addr).add k = ⟨b, k, none⟩ := by
  unfold Addr.add; split <;> simp_all
def mkI (k i : Int) : Int := 1000003 * (k + 7) + i
theorem mark_c (k i : Int) (h1 : 0 ≤ k) (h2 : k ≤ 9) (h3 : 0 ≤ i) (h4 : i ≤ 1000000000000000) (w : World) : Calls Tryd.prog 30 #[.int .i64 k, .int .i64 i] w fun e w' => e = .returned (.int .i64 (mkI k i)) ∧ w' = w := by
  have e1 : IntKind.i64.wrap (k + 7) = k + 7 := by rw [IntKind.wrap_i64]; omega
  have e2 : IntKind.i64.wrap (1000003 * (k + 7)) = 1000003 * (k + 7) := by rw [IntKind.wrap_i64]; omega
  have e3 : IntKind.i64.wrap (1000003 * (k + 7) + i) = mkI k i := by unfold mkI; rw [IntKind.wrap_i64]; omega
  go_enter Tryd.func30, Tryd.ntmps30
  go_wp2
  go_ret
  exact ⟨rfl, rfl⟩
/-- The marks as floats. -/
def mkF (i : Nat) : Nat := floatOfInt .f64 (mkI 1 i)
def mks (n : Nat) : List Nat := (List.range n).map mkF
theorem mks_succ (n : Nat) : mks (n + 1) = mks n ++ [mkF n] := by unfold mks; rw [List.range_succ, List.map_append]; rfl
theorem mks_len (n : Nat) : (mks n).length = n := by unfold mks; simp
theorem mks_get (n i : Nat) (h : i < (mks n).length) : (mks n)[i] = mkF i := by simp [mks]
theorem mkF_ok (i : Nat) (h : i ≤ 1000) : W64 (mkF i) ∧ isn (mkF i) = false := by
  obtain ⟨x, hx, hw, _, _, h4, _⟩ := int_float (n := 8000024 + i) (by omega) (by omega)
  have e : mkF i = x := by
    unfold mkF mkI
    rw [← hx]; congr 1
  rw [e]
  exact ⟨hw, by rw [isn_eq]; simp; omega⟩
theorem fl_cells {w : World} {ad : Addr} {l : List Nat} (h : Fl w (some ad) l) (m : Nat) (u : Value) (hu : (l.map (Value.float .f64))[m]? = some u) : w.cell? (ad.add m) = some u := by
  rw [List.getElem?_map] at hu
  obtain ⟨y, hy, rfl⟩ := Option.map_eq_some_iff.1 hu
  have hm := (List.getElem?_eq_some_iff.1 hy).1
  obtain ⟨ad', e, hc⟩ := h.at hm
  injection e with e
  subst e
  rw [hc]
  have := (List.getElem?_eq_some_iff.1 hy).2
  rw [this]
/-- A list lent: its block holds the list and twelve marks behind it. -/
def Lent (w : World) (B g : Nat) (l : List Nat) : Prop := Ow w B (.slice (some ⟨g, 0, none⟩) (l.length + 12) (l.length + 12)) (l ++ mks 12)
theorem Lent.ow {w : World} {B g : Nat} {l : List Nat} (h : Lent w B g l) : Fl w (some ⟨g, 0, none⟩) (l ++ mks 12) := by
  obtain ⟨A', c', e, _, f⟩ := ow_sl h
  have : some (⟨g, 0, none⟩ : Addr) = A' := by injection e
  rw [this]; exact f
theorem Lent.fl {w : World} {B g : Nat} {l : List Nat} (h : Lent w B g l) : Fl w (some ⟨g, 0, none⟩) l := by
  have := h.ow.take_ l.length
  simpa using this
theorem ow_len {w : World} {B n c : Nat} {A : Option Addr} {l : List Nat} (h : w.ownsRow B 25 1 (.slice A n c) n (l.map (Value.float .f64))) (hl : l.length = n) : Ow w B (.slice A n c) l := by unfold Ow; rw [hl]; exact h
set_option maxHeartbeats 4000000 in
theorem lent_reals_c {W : World} (A : Option Addr) (c : Nat) (l : List Nat) (hC : Fl W A l) (hA : A = none → c = 0 ∧ l = []) (hB : l.length * 8 ≤ 140737488351232) :
    Calls Tryd.prog 14 #[.slice A l.length c] W fun e w' => ∃ g, e = .returned (.slice (some ⟨g, 0, none⟩) l.length (l.length + 12)) ∧ W.heap.size ≤ g ∧ Lent w' W.heap.size g l ∧ Below W.heap.size W w' := by
  obtain ⟨i0, hi, hz0, hz1, hz2⟩ := info_parts f_info
  have HC := Lib.hid hC
  have HA := Lib.hid hA
  have hcut := cut_top (P := Tryd.prog) 22 25 .i64 Tryd.underlying22 hi (some ⟨W.heap.size, 0, none⟩) (l.length + 12) (l.length + 12) (l.length : Int) (by omega) (by omega)
  rw [Int.toNat_natCast] at hcut
  have hw : IntKind.i64.wrap ((l.length : Int) + 12) = ((l.length + 12 : Nat) : Int) := by rw [IntKind.wrap_i64]; omega
  clear hC hA
  go_enter Tryd.func14, Tryd.ntmps14
  go_wp2_with (first
    | (at_make; go_loud (refine wpList_make_own _ rfl _ _ 22 rfl W.heap.size 25 i0 _ 1 Tryd.underlying22 hi hz0 hz1 .i64 .i64 _ (l.length + 12) rfl rfl (by first | exact hw | omega) (by rw [hz2]; omega) (by unfold maxLen; omega) (Nat.le_refl _) ?_); intro w0 hown0 hgrow0
       have B0 := Lib.hid ((Below.refl W.heap.size W).grown hgrow0 (Nat.le_refl _) (fun k h => by cases h)))
    | (at_builtin; refine wpList_append_fits_any _ rfl _ _ 22 rfl W.heap.size 25 i0 1 Tryd.underlying22 hi hz1 W.heap.size 0 (l.length + 12) [] rfl hown0 A l.length c (l.map (Value.float .f64)) rfl (by simp) (fun h => ⟨by rw [(HA.out h).2]; rfl, (HA.out h).1⟩) (fun ad e m u hu => fl_cells (w := w0) (by subst e; exact HC.out.below B0.out) m u hu) (fun u hu => by obtain ⟨y, _, rfl⟩ := List.mem_map.1 hu; rfl) (by omega) ?_; intro w1 hown1 hgrow1
       replace B0 := Lib.hid (B0.out.grown hgrow1 (by have := B0.out.size; omega) (fun k h => by cases h; exact Nat.le_refl _))
       rw [Nat.zero_add, List.nil_append] at hown1
       rw [Nat.zero_add]
       clear hown0 hgrow0 hgrow1))
  have B1 := Lib.hid B0.out
  clear B0
  go_loopw [3, 4] (fun s v wr => ∃ k : Nat, k ≤ 12 ∧ v = .int .i64 k ∧ s = .slice (some ⟨W.heap.size, 0, none⟩) (l.length + k) (l.length + 12) ∧ wr.ownsRow W.heap.size 25 1 (.slice (some ⟨W.heap.size, 0, none⟩) (l.length + k) (l.length + 12)) (l.length + k) ((l ++ mks k).map (Value.float .f64)) ∧ Below W.heap.size W wr) (fun _ v _ => 12 - (intOf v).toNat)
  case atStart => exact ⟨0, by omega, rfl, rfl, by simpa [mks] using hown1, B1.out⟩
  case round =>
    obtain ⟨k, hk, rfl, rfl, hown, hb⟩ := hrel
    have HB := Lib.hid hb
    have hgs : W.heap.size < wr.heap.size := (hown.lt W.heap.size rfl).2
    clear hb hown1 B1
    have mj : ∀ w, k ≤ 12 → Calls Tryd.prog 30 #[.int .i64 1, .int .i64 k] w fun e w' => e = .returned (.int .i64 (mkI 1 k)) ∧ w' = w := fun w h => mark_c 1 k (by omega) (by omega) (by omega) (by omega) w
    go_wp2_with (first
      | (go_at_call 30; refine (mj _ hk).mono ?_; rintro e w2 ⟨rfl, rfl⟩)
      | (at_builtin; refine wpList_append_fits _ rfl _ _ 22 rfl W.heap.size 25 i0 1 Tryd.underlying22 hi hz1 W.heap.size (l.length + k) (l.length + 12) ((l ++ mks k).map (Value.float .f64)) rfl (hown.alloc _) ⟨w2.heap.size, 0, none⟩ 1 1 [.float .f64 (mkF k)] rfl rfl (fun m u hu => by rw [add_blk]; exact kb_cell (c := #[.float .f64 (mkF k)]) Array.getElem?_push_size (by simpa using hu)) (by simp [Value.oneCell']) (by omega) ?_; intro w3 hown3 hgrow3
         replace HB := Lib.hid ((bl_alloc HB.out _).grown hgrow3 (by have := HB.out.size; simp; omega) (fun b h => by cases h; exact Nat.le_refl _))
         clear hown hgrow3))
    · go_roundw
      case rel => exact ⟨k + 1, by omega, by go_num, by rw [Nat.add_assoc], by rw [mks_succ, ← List.append_assoc, List.map_append, ← Nat.add_assoc]; simpa using hown3, HB.out⟩
      case measure => simp [intOf]; omega
    · obtain rfl : k = 12 := by omega
      go_ret
      exact ⟨W.heap.size, rfl, Nat.le_refl _, ow_len hown (by simp [mks_len]), HB.out⟩
end Go.Proofs.YtaedkekjekbjmaaDoor

/- girderkit.KeptReals on a lent list; OverReals. -/
namespace Go.Proofs.YtaedkekjekbjmaaDoor
open Go Go.RowKit Nv GFl Ieee
set_option maxRecDepth 100000
set_option linter.unusedSimpArgs false
attribute [local go_sem] run_f64bits run_f64frombits run_neg_f64 run_store_float
set_option maxHeartbeats 4000000 in
theorem kept_reals_c (g : Nat) (A : Option Addr) (c cA : Nat) (l : List Nat) (W : World) (hg : Fl W (some ⟨g, 0, none⟩) (l ++ mks 12)) (hA : Fl W A l) (hc : c = l.length + 12) (wl : ∀ x ∈ l, W64 x) (hB : l.length * 8 ≤ 140737488351232) :
    Calls Tryd.prog 17 #[.slice (some ⟨g, 0, none⟩) l.length c, .slice A l.length cA] W fun e w' => e = .returned (.bool true) ∧ ∃ m, w' = W.drewN m := by
  subst hc
  have HG := Lib.hid hg
  have HA := Lib.hid hA
  have WL := Lib.hid wl
  have k0 : ((l.length : Int) != (l.length : Int)) = false := by simp
  have hw : IntKind.i64.wrap ((l.length : Int) + 12) = ((l.length + 12 : Nat) : Int) := by rw [IntKind.wrap_i64]; omega
  obtain ⟨i0, hi, hs⟩ := f_info1
  have hcut := cut_top (P := Tryd.prog) 22 25 .i64 Tryd.underlying22 hi (some ⟨g, 0, none⟩) l.length (l.length + 12) ((l.length + 12 : Nat) : Int) (by omega) (by omega)
  rw [Int.toNat_natCast] at hcut
  clear hg hA wl hi hs
  go_enter Tryd.func17, Tryd.ntmps17
  go_wp2
  go_loopw [6] (fun v6 wr => ∃ i : Nat, v6 = .int .i64 i ∧ i ≤ l.length + 12 ∧ Hid (∃ m, wr = W.drewN m)) (fun v _ => l.length + 12 - (intOf v).toNat)
  case atStart => exact ⟨0, rfl, Nat.zero_le _, Lib.hid ⟨0, rfl⟩⟩
  case round =>
    obtain ⟨i, rfl, hi, hq⟩ := hrel
    clear hcut
    by_cases hlt : i < l.length + 12
    · have l1 : decide (i < l.length + 12) = true := decide_eq_true hlt
      have l1' : decide ((i : Int) < (l.length : Int) + 12) = true := decide_eq_true (by omega)
      have hlt2 : i < (l ++ mks 12).length := by rw [List.length_append, mks_len]; exact hlt
      obtain ⟨ad, hA, d0⟩ := HG.out.at hlt2
      injection hA with hA
      subst hA
      rw [add_blk] at d0
      have j0 : (0 : Int) ≤ (i : Int) := by omega
      have j1 : (i : Int) < ((l.length + 12 : Nat) : Int) := by omega
      have j1' : (i : Int) < (l.length : Int) + 12 := by omega
      have j2 : IntKind.i64.wrap ((i : Int) + 1) = (i : Int) + 1 := by rw [IntKind.wrap_i64]; omega
      have HI : Hid (i + 1 ≤ l.length + 12) := Lib.hid (by omega)
      by_cases hin : i < l.length
      · have l2 : decide (i < l.length) = true := decide_eq_true hin
        have l3 : decide (l.length ≤ i) = false := decide_eq_false (by omega)
        obtain ⟨bd, hB2, d1⟩ := HA.out.at hin
        subst hB2
        have wy := WL.out _ (List.getElem_mem hin)
        rw [List.getElem_append_left hin] at d0
        have d0' : wr.cell? ⟨g, i, none⟩ = some (.float .f64 l[i]) := by obtain ⟨m, e⟩ := hq.out; rw [e]; exact d0
        have d1' : wr.cell? (bd.add i) = some (.float .f64 l[i]) := by obtain ⟨m, e⟩ := hq.out; rw [e]; exact d1
        have j3 : (i : Int) < (l.length : Int) := by omega
        obtain ⟨y, hy⟩ : ∃ y, l[i] = y := ⟨_, rfl⟩
        rw [hy] at d0' d1' wy
        have SF : Hid (∀ w, Calls Tryd.prog 18 #[.float .f64 y, .float .f64 y] w fun e w' => e = .returned (.bool true) ∧ w' = w) := Lib.hid (fun w => by have := sameFloat_c y y wy wy w; rw [sameF_self] at this; exact this)
        clear d0 d1 hy hlt hlt2 wy hin
        go_wp2
        go_quiet ((go_at_call 18; refine Calls.quiet_of_same (SF.out _)))
        go_wp2
        go_roundw
        case rel => exact ⟨i + 1, by go_num, HI.out, Lib.hid (by obtain ⟨m, e⟩ := hq.out; exact ⟨m + nq, by rw [e, World.drewN_drewN]⟩)⟩
        case measure => have := HI.out; simp [intOf]; omega
      · have l2 : decide (i < l.length) = false := decide_eq_false hin
        have l3 : decide (l.length ≤ i) = true := decide_eq_true (by omega)
        have e0 : (l ++ mks 12)[i] = floatOfInt .f64 (mkI 1 ((i - l.length : Nat) : Int)) := by rw [List.getElem_append_right (by omega), mks_get]; rfl
        rw [e0] at d0
        obtain ⟨wm, nm⟩ := mkF_ok (i - l.length) (by omega)
        have te := o_eq_self wm
        rw [nm] at te
        have te' : (FloatKind.f64.format.order (floatOfInt .f64 (mkI 1 ((i - l.length : Nat) : Int))) (floatOfInt .f64 (mkI 1 ((i - l.length : Nat) : Int))) == some .eq) = true := te
        have d0' : wr.cell? ⟨g, i, none⟩ = some (.float .f64 (floatOfInt .f64 (mkI 1 ((i - l.length : Nat) : Int)))) := by obtain ⟨m, e⟩ := hq.out; rw [e]; exact d0
        have MK : Hid (∀ w, Calls Tryd.prog 30 #[.int .i64 1, .int .i64 ((i - l.length : Nat) : Int)] w fun e w' => e = .returned (.int .i64 (mkI 1 ((i - l.length : Nat) : Int))) ∧ w' = w) := Lib.hid (fun w => mark_c 1 _ (by omega) (by omega) (by omega) (by omega) w)
        have j4 : IntKind.i64.wrap ((i : Int) - (l.length : Int)) = ((i - l.length : Nat) : Int) := by rw [IntKind.wrap_i64]; omega
        clear d0 e0 wm nm te hlt hlt2 hin
        go_wp2
        go_quiet ((go_at_call 30; refine Calls.quiet_of_same (MK.out _)))
        go_wp2
        go_roundw
        case rel => exact ⟨i + 1, by go_num, HI.out, Lib.hid (by obtain ⟨m, e⟩ := hq.out; exact ⟨m + nq, by rw [e, World.drewN_drewN]⟩)⟩
        case measure => have := HI.out; simp [intOf]; omega
    · have l1 : decide (i < l.length + 12) = false := decide_eq_false hlt
      have l1' : decide ((i : Int) < (l.length : Int) + 12) = false := decide_eq_false (by omega)
      clear hlt
      go_wp2
      go_ret
      exact ⟨rfl, hq.out⟩
/-- Nothing but one block is changed. -/
structure Ov (w w' : World) (g : Nat) : Prop where
  b : Below 0 w w'
  o : ∀ k, k ≠ g → w'.heap[k]? = w.heap[k]?
theorem Ov.below {W w w' : World} {g : Nat} (h : Ov w w' g) (hb : Below W.heap.size W w) (hg : W.heap.size ≤ g) : Below W.heap.size W w' :=
  ⟨h.b.os.trans hb.os, h.b.tape.trans hb.tape, h.b.output.trans hb.output, Nat.le_trans hb.size h.b.size, fun k hk => (h.o k (by omega)).trans (hb.block k hk)⟩
end Go.Proofs.YtaedkekjekbjmaaDoor
