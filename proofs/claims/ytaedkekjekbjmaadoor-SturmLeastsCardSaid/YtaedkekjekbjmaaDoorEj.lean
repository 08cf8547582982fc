import Derived.Test.YtaedkekjekbjmaaDoorEi
import Derived.Shelf.Strconv.Itoa0
import Derived.Test.YtaedkekjekbjmaaDoorProg
import Derived.Shelf.Spec.TrailingZeros
/- girderref02.Plus. -/
namespace Go.Proofs.YtaedkekjekbjmaaDoor
open Go Go.RowKit Nv
open Go.Proofs.YtaedkekjekbjmaaDoorW.PrintWords (Kd)
set_option maxRecDepth 100000
set_option linter.unusedSimpArgs false

/-- Two Nums as arguments, and what is answered, each in a block. -/
structure BX (W w : World) (h : Nat) (c0 c1 : Array Value) : Prop where
  b : Below W.heap.size W w
  g : W.heap.size ≤ h
  k0 : w.heap[h]? = some (.cells c0 50 (0, 0))
  k1 : w.heap[h + 1]? = some (.cells c1 50 (0, 0))
  k2 : w.heap[h + 1 + 1]? = some (.cells #[.bool false, .slice none 0 0, .int .i64 0] 50 (0, 0))
theorem BX.then {W w w' : World} {h : Nat} {c0 c1 : Array Value} (k : BX W w h c0 c1) (hb : Below w.heap.size w w') : BX W w' h c0 c1 := ⟨bl_then k.b hb, k.g, kb_keep hb k.k0, kb_keep hb k.k1, kb_keep hb k.k2⟩
theorem BX.drew {W w : World} {h : Nat} {c0 c1 : Array Value} (k : BX W w h c0 c1) : BX W w.drew h c0 c1 := ⟨bl_drew k.b, k.g, k.k0, k.k1, k.k2⟩
theorem bx_new (W : World) (c0 c1 : Array Value) : BX W (((W.alloc (.cells c0 50)).alloc (.cells c1 50)).alloc nilN) W.heap.size c0 c1 := by
  refine ⟨bl_alloc (bl_alloc (bl_alloc (Below.refl _ _) _) _) _, Nat.le_refl _, kb_alloc (kb_alloc (kb_new (Below.refl _ _))), kb_alloc ?_, ?_⟩
  · have := kb_new (w := W.alloc (.cells c0 50)) (o := .cells c1 50) (Below.refl _ _)
    simpa using this
  · have := kb_new (w := (W.alloc (.cells c0 50)).alloc (.cells c1 50)) (o := nilN) (Below.refl _ _)
    simpa using this
abbrev finW (w : World) (h : Nat) (g : Bool) (v : Value) (x : Int) : World := ((w.setCell ⟨h + 1 + 1, 0, none⟩ (.bool g)).setCell ⟨h + 1 + 1, 1, none⟩ v).setCell ⟨h + 1 + 1, 2, none⟩ (.int .i64 x)
theorem BX.fin {W w : World} {h : Nat} {c0 c1 : Array Value} (k : BX W w h c0 c1) (g : Bool) (v : Value) (x : Int) :
    (finW w h g v x).cell? ⟨h + 1 + 1, 0, none⟩ = some (.bool g) ∧ (finW w h g v x).cell? ⟨h + 1 + 1, 1, none⟩ = some v ∧ (finW w h g v x).cell? ⟨h + 1 + 1, 2, none⟩ = some (.int .i64 x) ∧ Below W.heap.size W (finW w h g v x) := by
  have z := hp_set (hp_set (hp_set k.k2 0 (.bool g)) 1 v) 2 (.int .i64 x)
  have hg := k.g
  exact ⟨kb_cell z (i := 0) rfl, kb_cell z (i := 1) rfl, kb_cell z (i := 2) rfl, bl_set (bl_set (bl_set k.b _ (show W.heap.size ≤ h + 1 + 1 by omega)) _ (show W.heap.size ≤ h + 1 + 1 by omega)) _ (show W.heap.size ≤ h + 1 + 1 by omega)⟩
theorem BX.lo {W w : World} {h : Nat} {c0 c1 : Array Value} (_ : BX W w h c0 c1) {b : Nat} (hb : h + 1 + 1 < b) (g : Bool) {v : Value} {n x : Int} (hv : Lo w b v n) : Ld (finW w h g v x) v n := by
  refine (hv.move (fun j hj => ?_)).ld
  have := hv.ge j hj
  rw [hp_other (by omega), hp_other (by omega), hp_other (by omega)]
/-- What Plus answers, the second exponent being no less. -/
def plusR (g : Bool) (m x : Int) (g' : Bool) (m' x' : Int) : Bool × Int × Int :=
  if m = 0 then (g', m', x') else if m' = 0 then (g, m, x) else
  if g = g' then (g, m + m' * 2 ^ (x' - x).toNat, x) else if m' * 2 ^ (x' - x).toNat ≤ m then (g, m - m' * 2 ^ (x' - x).toNat, x) else (g', m' * 2 ^ (x' - x).toNat - m, x)
def PPost (r : Bool × Int × Int) (w : World) (e : Ending) (w' : World) : Prop := NumPost r.1 r.2.1 r.2.2 w e w'
set_option maxHeartbeats 8000000 in
theorem plus1 {W : World} {u v : Value} {g g' : Bool} {m m' x x' : Int} (h : Nu W u g m x) (k : Nu W v g' m' x') (hs : Sl m) (ks : Sl m') (kb : Sl (m' * 2 ^ (x' - x).toNat)) (hx : -1000000 ≤ x) (kx : x' ≤ 1000000) (hle : m ≠ 0 → m' ≠ 0 → x ≤ x') :
    Calls Tryd.prog 63 #[u, v] W (PPost (plusR g m x g' m' x') W) := by
  have ZX : Hid (∀ w, Below W.heap.size W w → Calls Tryd.prog 82 #[u] w fun e w' => e = .returned (.bool (zeroB m)) ∧ Below w.heap.size w w') := Lib.hid (fun w hb => zero_d (h.below hb) hs)
  have ZY : Hid (∀ w, Below W.heap.size W w → Calls Tryd.prog 82 #[v] w fun e w' => e = .returned (.bool (zeroB m')) ∧ Below w.heap.size w w') := Lib.hid (fun w hb => zero_d (k.below hb) ks)
  have HU := Lib.hid h
  have HV := Lib.hid k
  have m0 : 0 ≤ m := by obtain ⟨_, _, h1⟩ := h; exact h1.nonneg
  have m0' : 0 ≤ m' := by obtain ⟨_, _, h1⟩ := k; exact h1.nonneg
  obtain ⟨u, rfl, A, c, l, rfl, hl, hC, hN, rfl⟩ := h
  obtain ⟨v, rfl, B, d, l', rfl, kl, kC, kN, rfl⟩ := k
  have DX : Hid (Ld W (.slice A l.length c) (lv l)) := Lib.hid ⟨A, c, l, rfl, hl, hC, hN, rfl⟩
  have DY : Hid (Ld W (.slice B l'.length d) (lv l')) := Lib.hid ⟨B, d, l', rfl, kl, kC, kN, rfl⟩
  clear hl hC hN kl kC kN
  obtain ⟨M, hM⟩ : ∃ M, lv l = M := ⟨_, rfl⟩
  obtain ⟨M', hM'⟩ : ∃ M, lv l' = M := ⟨_, rfl⟩
  rw [hM] at DX HU ZX hs m0 hle ⊢
  rw [hM'] at DY HV ZY ks kb m0' hle ⊢
  clear hM hM'
  have B0 := Lib.hid (bx_new W #[.bool g, .slice A l.length c, .int .i64 x] #[.bool g', .slice B l'.length d, .int .i64 x'])
  unfold plusR
  by_cases h1 : M = 0
  · rw [if_pos h1]
    have q1 : zeroB M = true := decide_eq_true h1
    rw [q1] at ZX
    clear q1 h1
    have b0 := B0
    have da0 := kb_cell b0.out.k0 (i := 0) rfl; have da1 := kb_cell b0.out.k0 (i := 1) rfl; have da2 := kb_cell b0.out.k0 (i := 2) rfl; have db0 := kb_cell b0.out.k1 (i := 0) rfl; have db1 := kb_cell b0.out.k1 (i := 1) rfl; have db2 := kb_cell b0.out.k1 (i := 2) rfl; have dc0 := kb_cell b0.out.k2 (i := 0) rfl; have dc1 := kb_cell b0.out.k2 (i := 1) rfl; have dc2 := kb_cell b0.out.k2 (i := 2) rfl; have fr0 := kb_frozen b0.out.k2 0; have fr1 := kb_frozen b0.out.k2 1; have fr2 := kb_frozen b0.out.k2 2
    clear b0
    go_enter Tryd.func63, Tryd.ntmps63
    go_wp2_with (first
      | (go_at_call 82; (with_reducible (first | refine (ZX.out _ B0.out.b).mono ?_ | refine (ZY.out _ B0.out.b).mono ?_)); rintro e w1 ⟨rfl, hb⟩; have B0 := Lib.hid (B0.out.then hb); have da0 := kb_cell B0.out.k0 (i := 0) rfl; have da1 := kb_cell B0.out.k0 (i := 1) rfl; have da2 := kb_cell B0.out.k0 (i := 2) rfl; have db0 := kb_cell B0.out.k1 (i := 0) rfl; have db1 := kb_cell B0.out.k1 (i := 1) rfl; have db2 := kb_cell B0.out.k1 (i := 2) rfl; have dc0 := kb_cell B0.out.k2 (i := 0) rfl; have dc1 := kb_cell B0.out.k2 (i := 1) rfl; have dc2 := kb_cell B0.out.k2 (i := 2) rfl; have fr0 := kb_frozen B0.out.k2 0; have fr1 := kb_frozen B0.out.k2 1; have fr2 := kb_frozen B0.out.k2 2; clear hb))
    obtain ⟨z0, z1, z2, z3⟩ := B0.out.fin g' (.slice B l'.length d) x'
    refine bodyPost_ret (v := .agg #[.bool g', (.slice B l'.length d), .int .i64 x']) (by simp [results, Tryd.results63, go_sem, z0, z1, z2]) rfl ?_
    exact ⟨_, rfl, ⟨_, rfl, DY.out.below z3⟩, z3⟩
  · rw [if_neg h1]
    have q1 : zeroB M = false := decide_eq_false h1
    rw [q1] at ZX
    clear q1
    by_cases h2 : M' = 0
    · rw [if_pos h2]
      have q2 : zeroB M' = true := decide_eq_true h2
      rw [q2] at ZY
      clear q2
      have b0 := B0
      have da0 := kb_cell b0.out.k0 (i := 0) rfl; have da1 := kb_cell b0.out.k0 (i := 1) rfl; have da2 := kb_cell b0.out.k0 (i := 2) rfl; have db0 := kb_cell b0.out.k1 (i := 0) rfl; have db1 := kb_cell b0.out.k1 (i := 1) rfl; have db2 := kb_cell b0.out.k1 (i := 2) rfl; have dc0 := kb_cell b0.out.k2 (i := 0) rfl; have dc1 := kb_cell b0.out.k2 (i := 1) rfl; have dc2 := kb_cell b0.out.k2 (i := 2) rfl; have fr0 := kb_frozen b0.out.k2 0; have fr1 := kb_frozen b0.out.k2 1; have fr2 := kb_frozen b0.out.k2 2
      clear b0
      go_enter Tryd.func63, Tryd.ntmps63
      go_wp2_with (first
        | (go_at_call 82; (with_reducible (first | refine (ZX.out _ B0.out.b).mono ?_ | refine (ZY.out _ B0.out.b).mono ?_)); rintro e w1 ⟨rfl, hb⟩; have B0 := Lib.hid (B0.out.then hb); have da0 := kb_cell B0.out.k0 (i := 0) rfl; have da1 := kb_cell B0.out.k0 (i := 1) rfl; have da2 := kb_cell B0.out.k0 (i := 2) rfl; have db0 := kb_cell B0.out.k1 (i := 0) rfl; have db1 := kb_cell B0.out.k1 (i := 1) rfl; have db2 := kb_cell B0.out.k1 (i := 2) rfl; have dc0 := kb_cell B0.out.k2 (i := 0) rfl; have dc1 := kb_cell B0.out.k2 (i := 1) rfl; have dc2 := kb_cell B0.out.k2 (i := 2) rfl; have fr0 := kb_frozen B0.out.k2 0; have fr1 := kb_frozen B0.out.k2 1; have fr2 := kb_frozen B0.out.k2 2; clear hb))
      obtain ⟨z0, z1, z2, z3⟩ := B0.out.fin g (.slice A l.length c) x
      refine bodyPost_ret (v := .agg #[.bool g, (.slice A l.length c), .int .i64 x]) (by simp [results, Tryd.results63, go_sem, z0, z1, z2]) rfl ?_
      exact ⟨_, rfl, ⟨_, rfl, DX.out.below z3⟩, z3⟩
    · rw [if_neg h2]
      have q2 : zeroB M' = false := decide_eq_false h2
      rw [q2] at ZY
      clear q2
      have hle := hle h1 h2
      have c5 : decide (x' < x) = false := decide_eq_false (by omega)
      have c6 : IntKind.i64.wrap (x' - x) = ((x' - x).toNat : Int) := by rw [IntKind.wrap_i64]; omega
      have UP : Hid (∀ w, Below W.heap.size W w → Calls Tryd.prog 83 #[.slice B l'.length d, .int .i64 ((x' - x).toNat : Int)] w (LPost (M' * 2 ^ (x' - x).toNat) w)) := Lib.hid (fun w hb => up_d (DY.out.below hb) ks (x' - x).toNat (by omega))
      obtain ⟨N, hN⟩ : ∃ N, (x' - x).toNat = N := ⟨_, rfl⟩
      rw [hN] at UP kb c6 ⊢
      obtain ⟨b, hb⟩ : ∃ b, M' * 2 ^ N = b := ⟨_, rfl⟩
      rw [hb] at UP kb ⊢
      clear hN hb
      by_cases h3 : g = g'
      · rw [if_pos h3]
        have c9 : (g == g') = true := by simpa using h3
        clear h3 h1 h2
        have AD : Hid (∀ w, Below W.heap.size W w → ∀ vb, Ld w vb b → Calls Tryd.prog 84 #[.slice A l.length c, vb] w (LPost (M + b) w)) := Lib.hid (fun w h1 vb h2 => add_d (DX.out.below h1) h2 hs kb)
        have b0 := B0
        have da0 := kb_cell b0.out.k0 (i := 0) rfl; have da1 := kb_cell b0.out.k0 (i := 1) rfl; have da2 := kb_cell b0.out.k0 (i := 2) rfl; have db0 := kb_cell b0.out.k1 (i := 0) rfl; have db1 := kb_cell b0.out.k1 (i := 1) rfl; have db2 := kb_cell b0.out.k1 (i := 2) rfl; have dc0 := kb_cell b0.out.k2 (i := 0) rfl; have dc1 := kb_cell b0.out.k2 (i := 1) rfl; have dc2 := kb_cell b0.out.k2 (i := 2) rfl; have fr0 := kb_frozen b0.out.k2 0; have fr1 := kb_frozen b0.out.k2 1; have fr2 := kb_frozen b0.out.k2 2
        clear b0
        go_enter Tryd.func63, Tryd.ntmps63
        go_upto_region 10 with (first
          | (go_at_call 82; (with_reducible (first | refine (ZX.out _ B0.out.b).mono ?_ | refine (ZY.out _ B0.out.b).mono ?_)); rintro e w1 ⟨rfl, hb⟩; have B0 := Lib.hid (B0.out.then hb); have da0 := kb_cell B0.out.k0 (i := 0) rfl; have da1 := kb_cell B0.out.k0 (i := 1) rfl; have da2 := kb_cell B0.out.k0 (i := 2) rfl; have db0 := kb_cell B0.out.k1 (i := 0) rfl; have db1 := kb_cell B0.out.k1 (i := 1) rfl; have db2 := kb_cell B0.out.k1 (i := 2) rfl; have dc0 := kb_cell B0.out.k2 (i := 0) rfl; have dc1 := kb_cell B0.out.k2 (i := 1) rfl; have dc2 := kb_cell B0.out.k2 (i := 2) rfl; have fr0 := kb_frozen B0.out.k2 0; have fr1 := kb_frozen B0.out.k2 1; have fr2 := kb_frozen B0.out.k2 2; clear hb)
          | (go_at_call 83; (with_reducible refine (UP.out _ B0.out.b).mono ?_); rintro e w2 ⟨vb, rfl, hv, hb⟩; have LB := Lib.hid hv.ld; have B0 := Lib.hid (B0.out.then hb); have da0 := kb_cell B0.out.k0 (i := 0) rfl; have da1 := kb_cell B0.out.k0 (i := 1) rfl; have da2 := kb_cell B0.out.k0 (i := 2) rfl; have db0 := kb_cell B0.out.k1 (i := 0) rfl; have db1 := kb_cell B0.out.k1 (i := 1) rfl; have db2 := kb_cell B0.out.k1 (i := 2) rfl; have dc0 := kb_cell B0.out.k2 (i := 0) rfl; have dc1 := kb_cell B0.out.k2 (i := 1) rfl; have dc2 := kb_cell B0.out.k2 (i := 2) rfl; have fr0 := kb_frozen B0.out.k2 0; have fr1 := kb_frozen B0.out.k2 1; have fr2 := kb_frozen B0.out.k2 2; clear hb hv))
        refine wp_region_G (g := 8) (S := fun w' => w'.cell? ⟨W.heap.size, 0, none⟩ = some (.bool g) ∧ w'.cell? ⟨W.heap.size, 2, none⟩ = some (.int .i64 x)) (by kernel_rfl) ?_
        have B1 := Lib.hid B0.out.drew
        have LB1 : Hid (Ld _ vb b) := Lib.hid (LB.out.below (bl_drew (Below.refl _ _)))
        obtain ⟨wd, hwd⟩ : ∃ w, w2.drew = w := ⟨_, rfl⟩
        rw [hwd] at B1 LB1
        rw [hwd]
        clear hwd
        have hS : wd.cell? ⟨W.heap.size, 0, none⟩ = some (.bool g) ∧ wd.cell? ⟨W.heap.size, 2, none⟩ = some (.int .i64 x) := ⟨kb_cell B1.out.k0 (i := 0) rfl, kb_cell B1.out.k0 (i := 2) rfl⟩
        (refine wpG_take (i := 0) (v := ?_) rfl rfl (by kernel_rfl) (by kernel_rfl) (by kernel_rfl) (fun _ _ _ h => h) (Or.inl ⟨by rfl, fun w => ?_⟩) (Or.inr hS) ?_; rotate_left; focus (go_simp; first | done | with_reducible rfl | exact rfl)); (try simp only [Act.put, List.setIfInBounds_toArray, List.set_cons_zero, List.set_cons_succ, List.getElem_toArray, List.getElem_cons_zero, List.getElem_cons_succ])
        (refine wpG_ldC (i := 1) [7, 8] (v := ?_) rfl rfl (by kernel_rfl) (by kernel_rfl) (by kernel_rfl) (by kernel_rfl) (fun _ _ _ h => h) (Or.inl ⟨by rfl, ?_⟩) hS ?_; rotate_left; focus (intro w hSw; (try dsimp only at hSw); go_simp; first | done | with_reducible rfl | exact rfl)); (try simp only [Act.put, List.setIfInBounds_toArray, List.set_cons_zero, List.set_cons_succ, List.getElem_toArray, List.getElem_cons_zero, List.getElem_cons_succ])
        (refine wpG_take (i := 2) (v := ?_) rfl rfl (by kernel_rfl) (by kernel_rfl) (by kernel_rfl) (fun _ _ _ h => h) (Or.inl ⟨by rfl, fun w => ?_⟩) (Or.inr hS) ?_; rotate_left; focus (go_simp; first | done | with_reducible rfl | exact rfl)); (try simp only [Act.put, List.setIfInBounds_toArray, List.set_cons_zero, List.set_cons_succ, List.getElem_toArray, List.getElem_cons_zero, List.getElem_cons_succ]); (refine wpG_take (i := 3) (v := ?_) rfl rfl (by kernel_rfl) (by kernel_rfl) (by kernel_rfl) (fun _ _ _ h => h) (Or.inl ⟨by rfl, fun w => ?_⟩) (Or.inr hS) ?_; rotate_left; focus (go_simp; first | done | with_reducible rfl | exact rfl)); (try simp only [Act.put, List.setIfInBounds_toArray, List.set_cons_zero, List.set_cons_succ, List.getElem_toArray, List.getElem_cons_zero, List.getElem_cons_succ]); (refine wpG_take (i := 5) (v := ?_) rfl rfl (by kernel_rfl) (by kernel_rfl) (by kernel_rfl) (fun _ _ _ h => h) (Or.inl ⟨by rfl, fun w => ?_⟩) (Or.inr hS) ?_; rotate_left; focus (go_simp; first | done | with_reducible rfl | exact rfl)); (try simp only [Act.put, List.setIfInBounds_toArray, List.set_cons_zero, List.set_cons_succ, List.getElem_toArray, List.getElem_cons_zero, List.getElem_cons_succ])
        (refine wpG_ldC (i := 6) [7, 8] (v := ?_) rfl rfl (by kernel_rfl) (by kernel_rfl) (by kernel_rfl) (by kernel_rfl) (fun _ _ _ h => h) (Or.inl ⟨by rfl, ?_⟩) hS ?_; rotate_left; focus (intro w hSw; (try dsimp only at hSw); go_simp; first | done | with_reducible rfl | exact rfl)); (try simp only [Act.put, List.setIfInBounds_toArray, List.set_cons_zero, List.set_cons_succ, List.getElem_toArray, List.getElem_cons_zero, List.getElem_cons_succ])
        refine wpG_one (i := 4) (by kernel_rfl) rfl (fun K hK => ?_); have HK := Lib.hid hK; clear hK
        go_simp
        (with_reducible refine (AD.out _ B1.out.b _ LB1.out).mono ?_)
        rintro e w4 ⟨vr, rfl, hv, hb⟩
        obtain ⟨AR, mR, cR, rfl⟩ := hv.ld.slice
        have VR := Lib.hid hv
        have SZ := Lib.hid (kb_lt B1.out.k2)
        have B0 := Lib.hid (B1.out.then hb)
        have hS : w4.cell? ⟨W.heap.size, 0, none⟩ = some (.bool g) ∧ w4.cell? ⟨W.heap.size, 2, none⟩ = some (.int .i64 x) := ⟨kb_cell B0.out.k0 (i := 0) rfl, kb_cell B0.out.k0 (i := 2) rfl⟩
        refine HK.out _ _ (Or.inr hS) ?_
        clear HK K hv hb
        (try simp only [Act.put, List.setIfInBounds_toArray, List.set_cons_zero, List.set_cons_succ, List.getElem_toArray, List.getElem_cons_zero, List.getElem_cons_succ])
        have da0 := kb_cell B0.out.k0 (i := 0) rfl; have da1 := kb_cell B0.out.k0 (i := 1) rfl; have da2 := kb_cell B0.out.k0 (i := 2) rfl; have db0 := kb_cell B0.out.k1 (i := 0) rfl; have db1 := kb_cell B0.out.k1 (i := 1) rfl; have db2 := kb_cell B0.out.k1 (i := 2) rfl; have dc0 := kb_cell B0.out.k2 (i := 0) rfl; have dc1 := kb_cell B0.out.k2 (i := 1) rfl; have dc2 := kb_cell B0.out.k2 (i := 2) rfl; have fr0 := kb_frozen B0.out.k2 0; have fr1 := kb_frozen B0.out.k2 1; have fr2 := kb_frozen B0.out.k2 2
        (refine wpG_take (i := 7) (v := ?_) rfl rfl (by kernel_rfl) (by kernel_rfl) (by kernel_rfl) (fun _ _ _ h => h) (Or.inl ⟨by rfl, fun w => ?_⟩) (Or.inr hS) ?_; rotate_left; focus (go_simp; first | done | with_reducible rfl | exact rfl)); (try simp only [Act.put, List.setIfInBounds_toArray, List.set_cons_zero, List.set_cons_succ, List.getElem_toArray, List.getElem_cons_zero, List.getElem_cons_succ])
        refine wpG_one (i := 8) (by kernel_rfl) rfl (fun K hK => ?_); have HK := Lib.hid hK; clear hK; go_simp; refine HK.out _ _ (Or.inl (by kernel_rfl)) ?_; clear HK K; (try simp only [Act.put, List.setIfInBounds_toArray, List.set_cons_zero, List.set_cons_succ, List.getElem_toArray, List.getElem_cons_zero, List.getElem_cons_succ])
        refine wpG_done (by kernel_rfl) ?_ _
        go_wp2
        obtain ⟨z0, z1, z2, z3⟩ := B0.out.fin g (.slice AR mR cR) x
        refine bodyPost_ret (v := .agg #[.bool g, (.slice AR mR cR), .int .i64 x]) (by simp [results, Tryd.results63, go_sem, z0, z1, z2]) rfl ?_
        exact ⟨_, rfl, ⟨_, rfl, B0.out.lo SZ.out g VR.out⟩, z3⟩
      · rw [if_neg h3]
        have c9 : (g == g') = false := by simpa using h3
        clear h3 h1 h2
        have CM : Hid (∀ w, Below W.heap.size W w → ∀ vb, Ld w vb b → Calls Tryd.prog 85 #[.slice A l.length c, vb] w fun e w' => e = .returned (.int .i64 (if M < b then -1 else if b < M then 1 else 0)) ∧ Below w.heap.size w w') := Lib.hid (fun w h1 vb h2 => cmp_d (DX.out.below h1) h2 hs kb)
        by_cases h4 : b ≤ M
        · rw [if_pos h4]
          have cm : ∃ q : Int, (if M < b then (-1 : Int) else if b < M then 1 else 0) = q ∧ decide (0 ≤ q) = true := ⟨_, rfl, by rw [if_neg (by omega)]; split <;> rfl⟩
          obtain ⟨q, hq, c10⟩ := cm
          rw [hq] at CM
          have AD : Hid (∀ w, Below W.heap.size W w → ∀ vb, Ld w vb b → Calls Tryd.prog 86 #[.slice A l.length c, vb] w (LPost (M - b) w)) := Lib.hid (fun w h1 vb h2 => sub_d (DX.out.below h1) h2 hs h4)
          clear hq h4
          have b0 := B0
          have da0 := kb_cell b0.out.k0 (i := 0) rfl; have da1 := kb_cell b0.out.k0 (i := 1) rfl; have da2 := kb_cell b0.out.k0 (i := 2) rfl; have db0 := kb_cell b0.out.k1 (i := 0) rfl; have db1 := kb_cell b0.out.k1 (i := 1) rfl; have db2 := kb_cell b0.out.k1 (i := 2) rfl; have dc0 := kb_cell b0.out.k2 (i := 0) rfl; have dc1 := kb_cell b0.out.k2 (i := 1) rfl; have dc2 := kb_cell b0.out.k2 (i := 2) rfl; have fr0 := kb_frozen b0.out.k2 0; have fr1 := kb_frozen b0.out.k2 1; have fr2 := kb_frozen b0.out.k2 2
          clear b0
          go_enter Tryd.func63, Tryd.ntmps63
          go_upto_region 12 with (first
            | (go_at_call 82; (with_reducible (first | refine (ZX.out _ B0.out.b).mono ?_ | refine (ZY.out _ B0.out.b).mono ?_)); rintro e w1 ⟨rfl, hb⟩; have B0 := Lib.hid (B0.out.then hb); have da0 := kb_cell B0.out.k0 (i := 0) rfl; have da1 := kb_cell B0.out.k0 (i := 1) rfl; have da2 := kb_cell B0.out.k0 (i := 2) rfl; have db0 := kb_cell B0.out.k1 (i := 0) rfl; have db1 := kb_cell B0.out.k1 (i := 1) rfl; have db2 := kb_cell B0.out.k1 (i := 2) rfl; have dc0 := kb_cell B0.out.k2 (i := 0) rfl; have dc1 := kb_cell B0.out.k2 (i := 1) rfl; have dc2 := kb_cell B0.out.k2 (i := 2) rfl; have fr0 := kb_frozen B0.out.k2 0; have fr1 := kb_frozen B0.out.k2 1; have fr2 := kb_frozen B0.out.k2 2; clear hb)
            | (go_at_call 83; (with_reducible refine (UP.out _ B0.out.b).mono ?_); rintro e w2 ⟨vb, rfl, hv, hb⟩; have LB := Lib.hid hv.ld; have B0 := Lib.hid (B0.out.then hb); have da0 := kb_cell B0.out.k0 (i := 0) rfl; have da1 := kb_cell B0.out.k0 (i := 1) rfl; have da2 := kb_cell B0.out.k0 (i := 2) rfl; have db0 := kb_cell B0.out.k1 (i := 0) rfl; have db1 := kb_cell B0.out.k1 (i := 1) rfl; have db2 := kb_cell B0.out.k1 (i := 2) rfl; have dc0 := kb_cell B0.out.k2 (i := 0) rfl; have dc1 := kb_cell B0.out.k2 (i := 1) rfl; have dc2 := kb_cell B0.out.k2 (i := 2) rfl; have fr0 := kb_frozen B0.out.k2 0; have fr1 := kb_frozen B0.out.k2 1; have fr2 := kb_frozen B0.out.k2 2; clear hb hv)
            | (go_at_call 85; (with_reducible refine (CM.out _ B0.out.b _ LB.out).mono ?_); rintro e w3 ⟨rfl, hb⟩; have LB := Lib.hid (LB.out.below hb); have B0 := Lib.hid (B0.out.then hb); have da0 := kb_cell B0.out.k0 (i := 0) rfl; have da1 := kb_cell B0.out.k0 (i := 1) rfl; have da2 := kb_cell B0.out.k0 (i := 2) rfl; have db0 := kb_cell B0.out.k1 (i := 0) rfl; have db1 := kb_cell B0.out.k1 (i := 1) rfl; have db2 := kb_cell B0.out.k1 (i := 2) rfl; have dc0 := kb_cell B0.out.k2 (i := 0) rfl; have dc1 := kb_cell B0.out.k2 (i := 1) rfl; have dc2 := kb_cell B0.out.k2 (i := 2) rfl; have fr0 := kb_frozen B0.out.k2 0; have fr1 := kb_frozen B0.out.k2 1; have fr2 := kb_frozen B0.out.k2 2; clear hb))
          refine wp_region_G (g := 8) (S := fun w' => w'.cell? ⟨W.heap.size, 0, none⟩ = some (.bool g) ∧ w'.cell? ⟨W.heap.size, 2, none⟩ = some (.int .i64 x)) (by kernel_rfl) ?_
          have B1 := Lib.hid B0.out.drew
          have LB1 : Hid (Ld _ vb b) := Lib.hid (LB.out.below (bl_drew (Below.refl _ _)))
          obtain ⟨wd, hwd⟩ : ∃ w, w3.drew = w := ⟨_, rfl⟩
          rw [hwd] at B1 LB1
          rw [hwd]
          clear hwd
          have hS : wd.cell? ⟨W.heap.size, 0, none⟩ = some (.bool g) ∧ wd.cell? ⟨W.heap.size, 2, none⟩ = some (.int .i64 x) := ⟨kb_cell B1.out.k0 (i := 0) rfl, kb_cell B1.out.k0 (i := 2) rfl⟩
          (refine wpG_take (i := 0) (v := ?_) rfl rfl (by kernel_rfl) (by kernel_rfl) (by kernel_rfl) (fun _ _ _ h => h) (Or.inl ⟨by rfl, fun w => ?_⟩) (Or.inr hS) ?_; rotate_left; focus (go_simp; first | done | with_reducible rfl | exact rfl)); (try simp only [Act.put, List.setIfInBounds_toArray, List.set_cons_zero, List.set_cons_succ, List.getElem_toArray, List.getElem_cons_zero, List.getElem_cons_succ])
          (refine wpG_ldC (i := 1) [7, 8] (v := ?_) rfl rfl (by kernel_rfl) (by kernel_rfl) (by kernel_rfl) (by kernel_rfl) (fun _ _ _ h => h) (Or.inl ⟨by rfl, ?_⟩) hS ?_; rotate_left; focus (intro w hSw; (try dsimp only at hSw); go_simp; first | done | with_reducible rfl | exact rfl)); (try simp only [Act.put, List.setIfInBounds_toArray, List.set_cons_zero, List.set_cons_succ, List.getElem_toArray, List.getElem_cons_zero, List.getElem_cons_succ])
          (refine wpG_take (i := 2) (v := ?_) rfl rfl (by kernel_rfl) (by kernel_rfl) (by kernel_rfl) (fun _ _ _ h => h) (Or.inl ⟨by rfl, fun w => ?_⟩) (Or.inr hS) ?_; rotate_left; focus (go_simp; first | done | with_reducible rfl | exact rfl)); (try simp only [Act.put, List.setIfInBounds_toArray, List.set_cons_zero, List.set_cons_succ, List.getElem_toArray, List.getElem_cons_zero, List.getElem_cons_succ]); (refine wpG_take (i := 3) (v := ?_) rfl rfl (by kernel_rfl) (by kernel_rfl) (by kernel_rfl) (fun _ _ _ h => h) (Or.inl ⟨by rfl, fun w => ?_⟩) (Or.inr hS) ?_; rotate_left; focus (go_simp; first | done | with_reducible rfl | exact rfl)); (try simp only [Act.put, List.setIfInBounds_toArray, List.set_cons_zero, List.set_cons_succ, List.getElem_toArray, List.getElem_cons_zero, List.getElem_cons_succ]); (refine wpG_take (i := 5) (v := ?_) rfl rfl (by kernel_rfl) (by kernel_rfl) (by kernel_rfl) (fun _ _ _ h => h) (Or.inl ⟨by rfl, fun w => ?_⟩) (Or.inr hS) ?_; rotate_left; focus (go_simp; first | done | with_reducible rfl | exact rfl)); (try simp only [Act.put, List.setIfInBounds_toArray, List.set_cons_zero, List.set_cons_succ, List.getElem_toArray, List.getElem_cons_zero, List.getElem_cons_succ])
          (refine wpG_ldC (i := 6) [7, 8] (v := ?_) rfl rfl (by kernel_rfl) (by kernel_rfl) (by kernel_rfl) (by kernel_rfl) (fun _ _ _ h => h) (Or.inl ⟨by rfl, ?_⟩) hS ?_; rotate_left; focus (intro w hSw; (try dsimp only at hSw); go_simp; first | done | with_reducible rfl | exact rfl)); (try simp only [Act.put, List.setIfInBounds_toArray, List.set_cons_zero, List.set_cons_succ, List.getElem_toArray, List.getElem_cons_zero, List.getElem_cons_succ])
          refine wpG_one (i := 4) (by kernel_rfl) rfl (fun K hK => ?_); have HK := Lib.hid hK; clear hK
          go_simp
          (with_reducible refine (AD.out _ B1.out.b _ LB1.out).mono ?_)
          rintro e w4 ⟨vr, rfl, hv, hb⟩
          obtain ⟨AR, mR, cR, rfl⟩ := hv.ld.slice
          have VR := Lib.hid hv
          have SZ := Lib.hid (kb_lt B1.out.k2)
          have B0 := Lib.hid (B1.out.then hb)
          have hS : w4.cell? ⟨W.heap.size, 0, none⟩ = some (.bool g) ∧ w4.cell? ⟨W.heap.size, 2, none⟩ = some (.int .i64 x) := ⟨kb_cell B0.out.k0 (i := 0) rfl, kb_cell B0.out.k0 (i := 2) rfl⟩
          refine HK.out _ _ (Or.inr hS) ?_
          clear HK K hv hb
          (try simp only [Act.put, List.setIfInBounds_toArray, List.set_cons_zero, List.set_cons_succ, List.getElem_toArray, List.getElem_cons_zero, List.getElem_cons_succ])
          have da0 := kb_cell B0.out.k0 (i := 0) rfl; have da1 := kb_cell B0.out.k0 (i := 1) rfl; have da2 := kb_cell B0.out.k0 (i := 2) rfl; have db0 := kb_cell B0.out.k1 (i := 0) rfl; have db1 := kb_cell B0.out.k1 (i := 1) rfl; have db2 := kb_cell B0.out.k1 (i := 2) rfl; have dc0 := kb_cell B0.out.k2 (i := 0) rfl; have dc1 := kb_cell B0.out.k2 (i := 1) rfl; have dc2 := kb_cell B0.out.k2 (i := 2) rfl; have fr0 := kb_frozen B0.out.k2 0; have fr1 := kb_frozen B0.out.k2 1; have fr2 := kb_frozen B0.out.k2 2
          (refine wpG_take (i := 7) (v := ?_) rfl rfl (by kernel_rfl) (by kernel_rfl) (by kernel_rfl) (fun _ _ _ h => h) (Or.inl ⟨by rfl, fun w => ?_⟩) (Or.inr hS) ?_; rotate_left; focus (go_simp; first | done | with_reducible rfl | exact rfl)); (try simp only [Act.put, List.setIfInBounds_toArray, List.set_cons_zero, List.set_cons_succ, List.getElem_toArray, List.getElem_cons_zero, List.getElem_cons_succ])
          refine wpG_one (i := 8) (by kernel_rfl) rfl (fun K hK => ?_); have HK := Lib.hid hK; clear hK; go_simp; refine HK.out _ _ (Or.inl (by kernel_rfl)) ?_; clear HK K; (try simp only [Act.put, List.setIfInBounds_toArray, List.set_cons_zero, List.set_cons_succ, List.getElem_toArray, List.getElem_cons_zero, List.getElem_cons_succ])
          refine wpG_done (by kernel_rfl) ?_ _
          go_wp2
          obtain ⟨z0, z1, z2, z3⟩ := B0.out.fin g (.slice AR mR cR) x
          refine bodyPost_ret (v := .agg #[.bool g, (.slice AR mR cR), .int .i64 x]) (by simp [results, Tryd.results63, go_sem, z0, z1, z2]) rfl ?_
          exact ⟨_, rfl, ⟨_, rfl, B0.out.lo SZ.out g VR.out⟩, z3⟩
        · rw [if_neg h4]
          have cm : ∃ q : Int, (if M < b then (-1 : Int) else if b < M then 1 else 0) = q ∧ decide (0 ≤ q) = false := ⟨_, rfl, by rw [if_pos (by omega)]; rfl⟩
          obtain ⟨q, hq, c10⟩ := cm
          rw [hq] at CM
          have AD : Hid (∀ w, Below W.heap.size W w → ∀ vb, Ld w vb b → Calls Tryd.prog 86 #[vb, .slice A l.length c] w (LPost (b - M) w)) := Lib.hid (fun w h1 vb h2 => sub_d h2 (DX.out.below h1) kb (by omega))
          clear hq h4
          have b0 := B0
          have da0 := kb_cell b0.out.k0 (i := 0) rfl; have da1 := kb_cell b0.out.k0 (i := 1) rfl; have da2 := kb_cell b0.out.k0 (i := 2) rfl; have db0 := kb_cell b0.out.k1 (i := 0) rfl; have db1 := kb_cell b0.out.k1 (i := 1) rfl; have db2 := kb_cell b0.out.k1 (i := 2) rfl; have dc0 := kb_cell b0.out.k2 (i := 0) rfl; have dc1 := kb_cell b0.out.k2 (i := 1) rfl; have dc2 := kb_cell b0.out.k2 (i := 2) rfl; have fr0 := kb_frozen b0.out.k2 0; have fr1 := kb_frozen b0.out.k2 1; have fr2 := kb_frozen b0.out.k2 2
          clear b0
          go_enter Tryd.func63, Tryd.ntmps63
          go_upto_region 13 with (first
            | (go_at_call 82; (with_reducible (first | refine (ZX.out _ B0.out.b).mono ?_ | refine (ZY.out _ B0.out.b).mono ?_)); rintro e w1 ⟨rfl, hb⟩; have B0 := Lib.hid (B0.out.then hb); have da0 := kb_cell B0.out.k0 (i := 0) rfl; have da1 := kb_cell B0.out.k0 (i := 1) rfl; have da2 := kb_cell B0.out.k0 (i := 2) rfl; have db0 := kb_cell B0.out.k1 (i := 0) rfl; have db1 := kb_cell B0.out.k1 (i := 1) rfl; have db2 := kb_cell B0.out.k1 (i := 2) rfl; have dc0 := kb_cell B0.out.k2 (i := 0) rfl; have dc1 := kb_cell B0.out.k2 (i := 1) rfl; have dc2 := kb_cell B0.out.k2 (i := 2) rfl; have fr0 := kb_frozen B0.out.k2 0; have fr1 := kb_frozen B0.out.k2 1; have fr2 := kb_frozen B0.out.k2 2; clear hb)
            | (go_at_call 83; (with_reducible refine (UP.out _ B0.out.b).mono ?_); rintro e w2 ⟨vb, rfl, hv, hb⟩; have LB := Lib.hid hv.ld; have B0 := Lib.hid (B0.out.then hb); have da0 := kb_cell B0.out.k0 (i := 0) rfl; have da1 := kb_cell B0.out.k0 (i := 1) rfl; have da2 := kb_cell B0.out.k0 (i := 2) rfl; have db0 := kb_cell B0.out.k1 (i := 0) rfl; have db1 := kb_cell B0.out.k1 (i := 1) rfl; have db2 := kb_cell B0.out.k1 (i := 2) rfl; have dc0 := kb_cell B0.out.k2 (i := 0) rfl; have dc1 := kb_cell B0.out.k2 (i := 1) rfl; have dc2 := kb_cell B0.out.k2 (i := 2) rfl; have fr0 := kb_frozen B0.out.k2 0; have fr1 := kb_frozen B0.out.k2 1; have fr2 := kb_frozen B0.out.k2 2; clear hb hv)
            | (go_at_call 85; (with_reducible refine (CM.out _ B0.out.b _ LB.out).mono ?_); rintro e w3 ⟨rfl, hb⟩; have LB := Lib.hid (LB.out.below hb); have B0 := Lib.hid (B0.out.then hb); have da0 := kb_cell B0.out.k0 (i := 0) rfl; have da1 := kb_cell B0.out.k0 (i := 1) rfl; have da2 := kb_cell B0.out.k0 (i := 2) rfl; have db0 := kb_cell B0.out.k1 (i := 0) rfl; have db1 := kb_cell B0.out.k1 (i := 1) rfl; have db2 := kb_cell B0.out.k1 (i := 2) rfl; have dc0 := kb_cell B0.out.k2 (i := 0) rfl; have dc1 := kb_cell B0.out.k2 (i := 1) rfl; have dc2 := kb_cell B0.out.k2 (i := 2) rfl; have fr0 := kb_frozen B0.out.k2 0; have fr1 := kb_frozen B0.out.k2 1; have fr2 := kb_frozen B0.out.k2 2; clear hb))
          refine wp_region_G (g := 8) (S := fun w' => w'.cell? ⟨W.heap.size + 1, 0, none⟩ = some (.bool g') ∧ w'.cell? ⟨W.heap.size, 2, none⟩ = some (.int .i64 x)) (by kernel_rfl) ?_
          have B1 := Lib.hid B0.out.drew
          have LB1 : Hid (Ld _ vb b) := Lib.hid (LB.out.below (bl_drew (Below.refl _ _)))
          obtain ⟨wd, hwd⟩ : ∃ w, w3.drew = w := ⟨_, rfl⟩
          rw [hwd] at B1 LB1
          rw [hwd]
          clear hwd
          have hS : wd.cell? ⟨W.heap.size + 1, 0, none⟩ = some (.bool g') ∧ wd.cell? ⟨W.heap.size, 2, none⟩ = some (.int .i64 x) := ⟨kb_cell B1.out.k1 (i := 0) rfl, kb_cell B1.out.k0 (i := 2) rfl⟩
          (refine wpG_take (i := 0) (v := ?_) rfl rfl (by kernel_rfl) (by kernel_rfl) (by kernel_rfl) (fun _ _ _ h => h) (Or.inl ⟨by rfl, fun w => ?_⟩) (Or.inr hS) ?_; rotate_left; focus (go_simp; first | done | with_reducible rfl | exact rfl)); (try simp only [Act.put, List.setIfInBounds_toArray, List.set_cons_zero, List.set_cons_succ, List.getElem_toArray, List.getElem_cons_zero, List.getElem_cons_succ])
          (refine wpG_ldC (i := 1) [7, 8] (v := ?_) rfl rfl (by kernel_rfl) (by kernel_rfl) (by kernel_rfl) (by kernel_rfl) (fun _ _ _ h => h) (Or.inl ⟨by rfl, ?_⟩) hS ?_; rotate_left; focus (intro w hSw; (try dsimp only at hSw); go_simp; first | done | with_reducible rfl | exact rfl)); (try simp only [Act.put, List.setIfInBounds_toArray, List.set_cons_zero, List.set_cons_succ, List.getElem_toArray, List.getElem_cons_zero, List.getElem_cons_succ])
          (refine wpG_take (i := 2) (v := ?_) rfl rfl (by kernel_rfl) (by kernel_rfl) (by kernel_rfl) (fun _ _ _ h => h) (Or.inl ⟨by rfl, fun w => ?_⟩) (Or.inr hS) ?_; rotate_left; focus (go_simp; first | done | with_reducible rfl | exact rfl)); (try simp only [Act.put, List.setIfInBounds_toArray, List.set_cons_zero, List.set_cons_succ, List.getElem_toArray, List.getElem_cons_zero, List.getElem_cons_succ]); (refine wpG_take (i := 3) (v := ?_) rfl rfl (by kernel_rfl) (by kernel_rfl) (by kernel_rfl) (fun _ _ _ h => h) (Or.inl ⟨by rfl, fun w => ?_⟩) (Or.inr hS) ?_; rotate_left; focus (go_simp; first | done | with_reducible rfl | exact rfl)); (try simp only [Act.put, List.setIfInBounds_toArray, List.set_cons_zero, List.set_cons_succ, List.getElem_toArray, List.getElem_cons_zero, List.getElem_cons_succ]); (refine wpG_take (i := 5) (v := ?_) rfl rfl (by kernel_rfl) (by kernel_rfl) (by kernel_rfl) (fun _ _ _ h => h) (Or.inl ⟨by rfl, fun w => ?_⟩) (Or.inr hS) ?_; rotate_left; focus (go_simp; first | done | with_reducible rfl | exact rfl)); (try simp only [Act.put, List.setIfInBounds_toArray, List.set_cons_zero, List.set_cons_succ, List.getElem_toArray, List.getElem_cons_zero, List.getElem_cons_succ])
          (refine wpG_ldC (i := 6) [7, 8] (v := ?_) rfl rfl (by kernel_rfl) (by kernel_rfl) (by kernel_rfl) (by kernel_rfl) (fun _ _ _ h => h) (Or.inl ⟨by rfl, ?_⟩) hS ?_; rotate_left; focus (intro w hSw; (try dsimp only at hSw); go_simp; first | done | with_reducible rfl | exact rfl)); (try simp only [Act.put, List.setIfInBounds_toArray, List.set_cons_zero, List.set_cons_succ, List.getElem_toArray, List.getElem_cons_zero, List.getElem_cons_succ])
          refine wpG_one (i := 4) (by kernel_rfl) rfl (fun K hK => ?_); have HK := Lib.hid hK; clear hK
          go_simp
          (with_reducible refine (AD.out _ B1.out.b _ LB1.out).mono ?_)
          rintro e w4 ⟨vr, rfl, hv, hb⟩
          obtain ⟨AR, mR, cR, rfl⟩ := hv.ld.slice
          have VR := Lib.hid hv
          have SZ := Lib.hid (kb_lt B1.out.k2)
          have B0 := Lib.hid (B1.out.then hb)
          have hS : w4.cell? ⟨W.heap.size + 1, 0, none⟩ = some (.bool g') ∧ w4.cell? ⟨W.heap.size, 2, none⟩ = some (.int .i64 x) := ⟨kb_cell B0.out.k1 (i := 0) rfl, kb_cell B0.out.k0 (i := 2) rfl⟩
          refine HK.out _ _ (Or.inr hS) ?_
          clear HK K hv hb
          (try simp only [Act.put, List.setIfInBounds_toArray, List.set_cons_zero, List.set_cons_succ, List.getElem_toArray, List.getElem_cons_zero, List.getElem_cons_succ])
          have da0 := kb_cell B0.out.k0 (i := 0) rfl; have da1 := kb_cell B0.out.k0 (i := 1) rfl; have da2 := kb_cell B0.out.k0 (i := 2) rfl; have db0 := kb_cell B0.out.k1 (i := 0) rfl; have db1 := kb_cell B0.out.k1 (i := 1) rfl; have db2 := kb_cell B0.out.k1 (i := 2) rfl; have dc0 := kb_cell B0.out.k2 (i := 0) rfl; have dc1 := kb_cell B0.out.k2 (i := 1) rfl; have dc2 := kb_cell B0.out.k2 (i := 2) rfl; have fr0 := kb_frozen B0.out.k2 0; have fr1 := kb_frozen B0.out.k2 1; have fr2 := kb_frozen B0.out.k2 2
          (refine wpG_take (i := 7) (v := ?_) rfl rfl (by kernel_rfl) (by kernel_rfl) (by kernel_rfl) (fun _ _ _ h => h) (Or.inl ⟨by rfl, fun w => ?_⟩) (Or.inr hS) ?_; rotate_left; focus (go_simp; first | done | with_reducible rfl | exact rfl)); (try simp only [Act.put, List.setIfInBounds_toArray, List.set_cons_zero, List.set_cons_succ, List.getElem_toArray, List.getElem_cons_zero, List.getElem_cons_succ])
          refine wpG_one (i := 8) (by kernel_rfl) rfl (fun K hK => ?_); have HK := Lib.hid hK; clear hK; go_simp; refine HK.out _ _ (Or.inl (by kernel_rfl)) ?_; clear HK K; (try simp only [Act.put, List.setIfInBounds_toArray, List.set_cons_zero, List.set_cons_succ, List.getElem_toArray, List.getElem_cons_zero, List.getElem_cons_succ])
          refine wpG_done (by kernel_rfl) ?_ _
          go_wp2
          obtain ⟨z0, z1, z2, z3⟩ := B0.out.fin g' (.slice AR mR cR) x
          refine bodyPost_ret (v := .agg #[.bool g', (.slice AR mR cR), .int .i64 x]) (by simp [results, Tryd.results63, go_sem, z0, z1, z2]) rfl ?_
          exact ⟨_, rfl, ⟨_, rfl, B0.out.lo SZ.out g' VR.out⟩, z3⟩
end Go.Proofs.YtaedkekjekbjmaaDoor

/- girderref02.Plus, whichever exponent is greater; Nums at a scale. -/
namespace Go.Proofs.YtaedkekjekbjmaaDoor
open Go Go.RowKit Nv
open Go.Proofs.YtaedkekjekbjmaaDoorW.PrintWords (Kd)
set_option maxRecDepth 100000
set_option linter.unusedSimpArgs false

theorem lk_at {w : World} {A : Option Addr} {l : List Int} (h : Kd.C (Kd.int .u64) w A l.length l) {i : Nat} (hi : i < l.length) : ∃ ad, A = some ad ∧ w.cell? (ad.add i) = some (.int .u64 l[i]) := by
  obtain ⟨ad, e, hc⟩ := h.2.2 (by omega)
  obtain ⟨cs, _, hK, hcs⟩ := hc i _ (List.getElem?_eq_getElem hi)
  have hK : cs = [.int .u64 l[i]] := hK
  subst hK
  have := hcs 0 _ rfl
  rw [show (Kd.int .u64).sz = 1 from rfl] at this
  exact ⟨ad, e, by simpa using this⟩
theorem lk_mk {w : World} {A : Option Addr} {l : List Int} (hl : l.length ≤ 9223372036854775807) (h : 0 < l.length → ∃ ad, A = some ad ∧ ∀ i (hi : i < l.length), w.cell? (ad.add i) = some (.int .u64 l[i])) : Kd.C (Kd.int .u64) w A l.length l := by
  refine ⟨rfl, hl, fun h0 => ?_⟩
  obtain ⟨ad, e, hc⟩ := h h0
  refine ⟨ad, e, fun j p hp => ⟨[.int .u64 p], rfl, rfl, fun i u hu => ?_⟩⟩
  have hj := (List.getElem?_eq_some_iff.1 hp).1
  have hv := (List.getElem?_eq_some_iff.1 hp).2
  have hi : i = 0 := by have := (List.getElem?_eq_some_iff.1 hu).1; simpa using this
  subst hi
  have : u = .int .u64 p := by simpa using hu.symm
  rw [this, show (Kd.int .u64).sz = 1 from rfl, Nat.mul_one, Nat.add_zero, ← hv]
  exact hc j hj
/-- A store into a cell that holds no limb leaves it. -/
theorem Ld.setc {w : World} {v : Value} {n : Int} (h : Ld w v n) {p : Addr} {c : Value} (hp : w.cell? p = some c) (hc : ∀ z, c ≠ .int .u64 z) (u : Value) : Ld (w.setCell p u) v n := by
  obtain ⟨A, d, l, rfl, hl, hC, hN, hn⟩ := h
  refine ⟨A, d, l, rfl, hl, lk_mk hC.2.1 (fun h0 => ?_), hN, hn⟩
  obtain ⟨ad, e, _⟩ := lk_at hC h0
  refine ⟨ad, e, fun i hi => ?_⟩
  obtain ⟨ad', e', hx⟩ := lk_at hC hi
  rw [e] at e'
  injection e' with e'
  subst e'
  have hne : p ≠ ad.add i := fun e => by rw [e, hx] at hp; injection hp with hp; exact hc _ hp.symm
  exact (World.cell?_setCell_other _ _ _ _ hne).trans hx
set_option maxHeartbeats 8000000 in
theorem plus2 {W : World} {u v : Value} {g g' : Bool} {m m' x x' : Int} (h : Nu W u g m x) (k : Nu W v g' m' x') (hs : Sl m) (ks : Sl m') (kb : Sl (m * 2 ^ (x - x').toNat)) (hx : x ≤ 1000000) (kx : -1000000 ≤ x') (hlt : x' < x) (h1 : m ≠ 0) (h2 : m' ≠ 0) :
    Calls Tryd.prog 63 #[u, v] W (PPost (plusR g' m' x' g m x) W) := by
  have ZX : Hid (∀ w, Below W.heap.size W w → Calls Tryd.prog 82 #[u] w fun e w' => e = .returned (.bool (zeroB m)) ∧ Below w.heap.size w w') := Lib.hid (fun w hb => zero_d (h.below hb) hs)
  have ZY : Hid (∀ w, Below W.heap.size W w → Calls Tryd.prog 82 #[v] w fun e w' => e = .returned (.bool (zeroB m')) ∧ Below w.heap.size w w') := Lib.hid (fun w hb => zero_d (k.below hb) ks)
  have PL : Hid (∀ w, Below W.heap.size W w → Calls Tryd.prog 63 #[v, u] w (PPost (plusR g' m' x' g m x) w)) := Lib.hid (fun w hb => plus1 (k.below hb) (h.below hb) ks hs kb kx hx (fun _ _ => by omega))
  obtain ⟨⟨g3, m3, x3⟩, hr⟩ : ∃ r, plusR g' m' x' g m x = r := ⟨_, rfl⟩
  rw [hr] at PL ⊢
  obtain ⟨u, rfl, A, c, l, rfl, hl, hC, hN, rfl⟩ := h
  obtain ⟨v, rfl, B, d, l', rfl, kl, kC, kN, rfl⟩ := k
  obtain ⟨M, hM⟩ : ∃ M, lv l = M := ⟨_, rfl⟩
  obtain ⟨M', hM'⟩ : ∃ M, lv l' = M := ⟨_, rfl⟩
  rw [hM] at ZX h1
  rw [hM'] at ZY h2
  have q1 : zeroB M = false := decide_eq_false h1
  have q2 : zeroB M' = false := decide_eq_false h2
  rw [q1] at ZX
  rw [q2] at ZY
  have c5 : decide (x' < x) = true := decide_eq_true hlt
  have B0 := Lib.hid (bx_new W #[.bool g, .slice A l.length c, .int .i64 x] #[.bool g', .slice B l'.length d, .int .i64 x'])
  clear hl hC hN kl kC kN hM hM' q1 q2 h1 h2 hlt hr hs ks kb hx kx
  have b0 := B0
  have da0 := kb_cell b0.out.k0 (i := 0) rfl; have da1 := kb_cell b0.out.k0 (i := 1) rfl; have da2 := kb_cell b0.out.k0 (i := 2) rfl
  have db0 := kb_cell b0.out.k1 (i := 0) rfl; have db1 := kb_cell b0.out.k1 (i := 1) rfl; have db2 := kb_cell b0.out.k1 (i := 2) rfl
  clear b0
  go_enter Tryd.func63, Tryd.ntmps63
  go_wp2_with (first
    | (go_at_call 82; (with_reducible (first | refine (ZX.out _ B0.out.b).mono ?_ | refine (ZY.out _ B0.out.b).mono ?_)); rintro e w1 ⟨rfl, hb⟩; have B0 := Lib.hid (B0.out.then hb); have da0 := kb_cell B0.out.k0 (i := 0) rfl; have da1 := kb_cell B0.out.k0 (i := 1) rfl; have da2 := kb_cell B0.out.k0 (i := 2) rfl; have db0 := kb_cell B0.out.k1 (i := 0) rfl; have db1 := kb_cell B0.out.k1 (i := 1) rfl; have db2 := kb_cell B0.out.k1 (i := 2) rfl; clear hb)
    | (go_at_call 63; (with_reducible refine (PL.out _ B0.out.b).mono ?_); rintro e w2 ⟨vr, rfl, hv, hb⟩; obtain ⟨ur, rfl, hu⟩ := hv; obtain ⟨AR, mR, cR, rfl⟩ := hu.slice; have HU := Lib.hid hu; have B0 := Lib.hid (B0.out.then hb); have dc0 := kb_cell B0.out.k2 (i := 0) rfl; have dc1 := kb_cell B0.out.k2 (i := 1) rfl; have dc2 := kb_cell B0.out.k2 (i := 2) rfl; have fr0 := kb_frozen B0.out.k2 0; have fr1 := kb_frozen B0.out.k2 1; have fr2 := kb_frozen B0.out.k2 2; clear hb hu))
  obtain ⟨z0, z1, z2, z3⟩ := B0.out.fin g3 (.slice AR mR cR) x3
  refine bodyPost_ret (v := .agg #[.bool g3, .slice AR mR cR, .int .i64 x3]) (by simp [results, Tryd.results63, go_sem, z0, z1, z2]) rfl ?_
  refine ⟨_, rfl, ⟨_, rfl, ?_⟩, z3⟩
  have y0 := hp_set B0.out.k2 0 (.bool g3)
  have y1 := hp_set y0 1 (.slice AR mR cR)
  exact ((HU.out.setc (kb_cell B0.out.k2 (i := 0) rfl) (fun z h => by cases h) (.bool g3)).setc (kb_cell y0 (i := 1) rfl) (fun z h => by cases h) (.slice AR mR cR)).setc (kb_cell y1 (i := 2) rfl) (fun z h => by cases h) (.int .i64 x3)
end Go.Proofs.YtaedkekjekbjmaaDoor

/- Nums at a scale: what they stand for. -/
namespace Go.Proofs.YtaedkekjekbjmaaDoor
open Go Go.RowKit Nv
open Go.Proofs.YtaedkekjekbjmaaDoorW.PrintWords (Kd)
set_option maxRecDepth 100000

def nz (g : Bool) (m : Int) : Int := if g = true then -m else m
theorem nz_mul (g g' : Bool) (m m' : Int) : nz (g != g') (m * m') = nz g m * nz g' m' := by
  cases g <;> cases g' <;> simp [nz, Int.neg_mul, Int.mul_neg]
theorem nz_not (g : Bool) (m : Int) : nz (!g) m = -nz g m := by cases g <;> simp [nz]
theorem nz_mulr (g : Bool) (m c : Int) : nz g (m * c) = nz g m * c := by cases g <;> simp [nz, Int.neg_mul]
theorem nz_abs (g : Bool) {m : Int} (_ : 0 ≤ m) : (nz g m).natAbs = m.natAbs := by cases g <;> simp [nz]
/-- A Num that is z, 2^k being the unit's other side. -/
def NS (w : World) (v : Value) (k : Nat) (E : Int) (z : Int) : Prop := ∃ g m x, Nu w v g m x ∧ 0 ≤ m ∧ -(k : Int) ≤ x ∧ x ≤ E ∧ nz g m * 2 ^ (x + k).toNat = z
def Sz (z : Int) : Prop := (z.natAbs : Int) < ls 1000000
def ZPost (k : Nat) (E z : Int) (w : World) (e : Ending) (w' : World) : Prop := ∃ v, e = .returned v ∧ NS w' v k E z ∧ Below w.heap.size w w'
theorem NS.below {w w' : World} {v : Value} {k : Nat} {E z : Int} (h : NS w v k E z) (hb : Below w.heap.size w w') : NS w' v k E z := by
  obtain ⟨g, m, x, h1, h2⟩ := h
  exact ⟨g, m, x, h1.below hb, h2⟩
theorem Nu.pos {w : World} {v : Value} {g : Bool} {m x : Int} (h : Nu w v g m x) : 0 ≤ m := by
  obtain ⟨_, _, h1⟩ := h
  exact h1.nonneg
theorem p2i_pos (n : Nat) : (1 : Int) ≤ 2 ^ n := by
  have := Int.pow_pos (n := 2) (m := n) (by decide)
  omega
theorem le_scaled {m : Int} (h : 0 ≤ m) (n : Nat) : m ≤ m * 2 ^ n := by
  have := Int.mul_le_mul_of_nonneg_left (p2i_pos n) h
  omega
theorem NS.small {g : Bool} {m x : Int} {k : Nat} {z : Int} (hm : 0 ≤ m) (hz : nz g m * 2 ^ (x + k).toNat = z) (hs : Sz z) : Sl m := by
  unfold Sz at hs
  unfold Sl
  have h1 := le_scaled hm (x + k).toNat
  have h2 : ((nz g m * 2 ^ (x + k).toNat).natAbs : Int) = m * 2 ^ (x + k).toNat := by
    rw [Int.natAbs_mul, nz_abs g hm]
    have h3 := p2i_pos (x + k).toNat
    push_cast
    rw [Int.natAbs_of_nonneg hm, Int.natAbs_of_nonneg (by omega : (0 : Int) ≤ 2 ^ (x + k).toNat)]
  rw [← hz, h2] at hs
  omega
theorem times_s {w : World} {u v : Value} {k k' : Nat} {E E' z z' : Int} (h : NS w u k E z) (h' : NS w v k' E' z') (hs : Sz z) (hs' : Sz z') (hk : k ≤ 1000000) (hk' : k' ≤ 1000000) (hE : E ≤ 1000000) (hE' : E' ≤ 1000000) :
    Calls Tryd.prog 66 #[u, v] w (ZPost (k + k') (E + E') (z * z') w) := by
  obtain ⟨g, m, x, h1, h2, h3, h4, h5⟩ := h
  obtain ⟨g', m', x', j1, j2, j3, j4, j5⟩ := h'
  refine (times_d h1 j1 (NS.small h2 h5 hs) (NS.small j2 j5 hs') (by omega) (by omega)).mono ?_
  rintro e w' ⟨r, rfl, hr, hb⟩
  refine ⟨r, rfl, ⟨_, _, _, hr, Int.mul_nonneg h2 j2, by push_cast; omega, by omega, ?_⟩, hb⟩
  rw [nz_mul, ← h5, ← j5, show (x + x' + ((k + k' : Nat) : Int)).toNat = (x + k).toNat + (x' + k').toNat by omega, Int.pow_add]
  ac_rfl
theorem minus_s {w : World} {u : Value} {k : Nat} {E z : Int} (h : NS w u k E z) : Calls Tryd.prog 64 #[u] w (ZPost k E (-z) w) := by
  obtain ⟨g, m, x, h1, h2, h3, h4, h5⟩ := h
  refine (minus_d h1).mono ?_
  rintro e w' ⟨r, rfl, hr, hb⟩
  exact ⟨r, rfl, ⟨_, _, _, hr, h2, h3, h4, by rw [nz_not, Int.neg_mul, h5]⟩, hb⟩
def sgZ (z : Int) : Int := if z = 0 then 0 else if z < 0 then -1 else 1
theorem sign_s {w : World} {u : Value} {k : Nat} {E z : Int} (h : NS w u k E z) (hs : Sz z) : Calls Tryd.prog 65 #[u] w fun e w' => e = .returned (.int .i64 (sgZ z)) ∧ Below w.heap.size w w' := by
  obtain ⟨g, m, x, h1, h2, h3, h4, h5⟩ := h
  have e : sgnB g m = sgZ z := by
    have hp := p2i_pos (x + k).toNat
    unfold sgnB sgZ
    rw [← h5]
    by_cases h0 : m = 0
    · rw [if_pos h0, if_pos (by rw [h0]; cases g <;> simp [nz])]
    · have hm : 0 < m * 2 ^ (x + k).toNat := Int.mul_pos (by omega) (by omega)
      rw [if_neg h0]
      cases g
      · rw [if_neg (by simp), show nz false m = m from rfl, if_neg (by omega), if_neg (by omega)]
      · rw [if_pos rfl, show nz true m = -m from rfl, Int.neg_mul, if_neg (by omega), if_pos (by omega)]
  rw [← e]
  exact sign_d h1 (NS.small h2 h5 hs)
theorem whole_s (n : Nat) (hn : n ≤ 1000) (w : World) : Calls Tryd.prog 51 #[.int .i64 (n : Int)] w (ZPost 0 0 (n : Int) w) := by
  refine (whole_d n hn w).mono ?_
  rintro e w' ⟨r, rfl, hr, hb⟩
  exact ⟨r, rfl, ⟨_, _, _, hr, by omega, by omega, by omega, by simp [nz]⟩, hb⟩
theorem plus_r {w : World} {v : Value} {g g' : Bool} {m m' x x' : Int} {k : Nat} {E : Int} (h1 : 0 ≤ m) (h2 : 0 ≤ m') (h3 : -(k : Int) ≤ x) (h4 : x ≤ E) (h5 : -(k : Int) ≤ x') (h6 : x' ≤ E) (hle : m ≠ 0 → m' ≠ 0 → x ≤ x')
    (hr : Nu w v (plusR g m x g' m' x').1 (plusR g m x g' m' x').2.1 (plusR g m x g' m' x').2.2) : NS w v k E (nz g m * 2 ^ (x + k).toNat + nz g' m' * 2 ^ (x' + k).toNat) := by
  have zero : ∀ g : Bool, nz g 0 = 0 := fun g => by cases g <;> simp [nz]
  unfold plusR at hr
  by_cases c1 : m = 0
  · rw [if_pos c1] at hr
    rw [c1, zero, Int.zero_mul, Int.zero_add]
    exact ⟨_, _, _, hr, h2, h5, h6, rfl⟩
  · rw [if_neg c1] at hr
    by_cases c2 : m' = 0
    · rw [if_pos c2] at hr
      rw [c2, zero, Int.zero_mul, Int.add_zero]
      exact ⟨_, _, _, hr, h1, h3, h4, rfl⟩
    · rw [if_neg c2] at hr
      have hx := hle c1 c2
      have ep : (2 : Int) ^ (x' + k).toNat = 2 ^ (x' - x).toNat * 2 ^ (x + k).toNat := by rw [← Int.pow_add]; congr 1; omega
      have hb : 0 ≤ m' * 2 ^ (x' - x).toNat := Int.mul_nonneg h2 (by have := p2i_pos (x' - x).toNat; omega)
      rw [ep, ← Int.mul_assoc, show nz g' m' * 2 ^ (x' - x).toNat = nz g' (m' * 2 ^ (x' - x).toNat) from (nz_mulr _ _ _).symm, ← Int.add_mul]
      generalize m' * 2 ^ (x' - x).toNat = b at *
      by_cases c3 : g = g'
      · rw [if_pos c3] at hr
        subst c3
        exact ⟨_, _, _, hr, by show 0 ≤ m + b; omega, h3, h4, by show nz g (m + b) * _ = _; congr 1; cases g <;> simp [nz]; omega⟩
      · rw [if_neg c3] at hr
        by_cases c4 : b ≤ m
        · rw [if_pos c4] at hr
          exact ⟨_, _, _, hr, by show 0 ≤ m - b; omega, h3, h4, by show nz g (m - b) * _ = _; congr 1; cases g <;> cases g' <;> simp [nz] at c3 ⊢ <;> omega⟩
        · rw [if_neg c4] at hr
          exact ⟨_, _, _, hr, by show 0 ≤ b - m; omega, h3, h4, by show nz g' (b - m) * _ = _; congr 1; cases g <;> cases g' <;> simp [nz] at c3 ⊢ <;> omega⟩
theorem plus_s {w : World} {u v : Value} {k : Nat} {E z z' : Int} (h : NS w u k E z) (h' : NS w v k E z') (hs : Sz z) (hs' : Sz z') (hk : k ≤ 1000000) (hE : E ≤ 1000000) :
    Calls Tryd.prog 63 #[u, v] w (ZPost k E (z + z') w) := by
  have big : ∀ (g : Bool) (m x x' z : Int), 0 ≤ m → -(k : Int) ≤ x' → -(k : Int) ≤ x → nz g m * 2 ^ (x + k).toNat = z → Sz z → Sl (m * 2 ^ (x - x').toNat) := fun g m x x' z hm h1 h2 hz hsz => by
    have e1 : m * 2 ^ (x - x').toNat ≤ m * 2 ^ (x + k).toNat := Int.mul_le_mul_of_nonneg_left (by
      have : (2 : Int) ^ (x + k).toNat = 2 ^ (x - x').toNat * 2 ^ ((x + k).toNat - (x - x').toNat) := by rw [← Int.pow_add]; congr 1; omega
      rw [this]
      exact le_scaled (by have := p2i_pos (x - x').toNat; omega) _) hm
    have e2 : Sl (m * 2 ^ (x + k).toNat) := by
      refine NS.small (g := g) (x := -(k : Int)) (k := k) (z := z) (Int.mul_nonneg hm (by have := p2i_pos (x + k).toNat; omega)) ?_ hsz
      rw [show (-(k : Int) + k).toNat = 0 by omega, Int.pow_zero, Int.mul_one, nz_mulr, hz]
    unfold Sl at *
    omega
  obtain ⟨g, m, x, h1, h2, h3, h4, h5⟩ := h
  obtain ⟨g', m', x', j1, j2, j3, j4, j5⟩ := h'
  have s1 := NS.small h2 h5 hs
  have s2 := NS.small j2 j5 hs'
  by_cases hc : m ≠ 0 → m' ≠ 0 → x ≤ x'
  · refine (plus1 h1 j1 s1 s2 (big g' m' x' x z' j2 h3 j3 j5 hs') (by omega) (by omega) hc).mono ?_
    rintro e w' ⟨r, rfl, hr, hb⟩
    exact ⟨r, rfl, by rw [← h5, ← j5]; exact plus_r h2 j2 h3 h4 j3 j4 hc hr, hb⟩
  · have c1 : m ≠ 0 := fun e => hc (fun h => absurd e h)
    have c2 : m' ≠ 0 := fun e => hc (fun _ h => absurd e h)
    have c3 : x' < x := by
      rcases Int.lt_or_le x' x with h | h
      · exact h
      · exact absurd (fun _ _ => h) hc
    refine (plus2 h1 j1 s1 s2 (big g m x x' z h2 j3 h3 h5 hs) (by omega) (by omega) c3 c1 c2).mono ?_
    rintro e w' ⟨r, rfl, hr, hb⟩
    refine ⟨r, rfl, ?_, hb⟩
    rw [← h5, ← j5, Int.add_comm]
    exact plus_r j2 h2 j3 j4 h3 h4 (fun _ _ => by omega) hr
end Go.Proofs.YtaedkekjekbjmaaDoor

/- What the small functions of package math answer. -/
namespace Go.Proofs.YtaedkekjekbjmaaDoor
open Go Go.RowKit GFl
set_option maxRecDepth 100000
attribute [local go_sem] run_f64bits run_f64frombits run_neg_f64
/-- The word of a rung (a size without its sign). -/
def fabs (x : Nat) : Nat := rg x
theorem fabs_w (x : Nat) : W64 (fabs x) := W64.mk (by unfold fabs; rw [rg_eq]; omega)
theorem fabs_rg (x : Nat) : rg (fabs x) = rg x := by unfold fabs; rw [rg_eq, rg_eq]; omega
theorem fabs_neg (x : Nat) : neg (fabs x) = false := by unfold fabs; rw [neg_eq, rg_eq]; simp; omega
theorem fabs_isn (x : Nat) : isn (fabs x) = isn x := by rw [isn_eq, isn_eq, fabs_rg]
theorem fabs_plc (x : Nat) : plc (fabs x) = rg x := by rw [plc_eq, fabs_rg, fabs_neg]; rfl

theorem abs_c (x : Nat) (hx : W64 x) (w : World) : Calls Tryd.prog 21 #[.float .f64 x] w fun e w' => e = .returned (.float .f64 (fabs x)) ∧ w' = w := by
  have e : (bits BinOp.andNot IntKind.u64 (↑x) 9223372036854775808).toNat = fabs x := by
    have h := hx.lt
    have := u64_andNot_nat x 9223372036854775808 h (by decide)
    rw [show ((9223372036854775808 : Nat) : Int) = 9223372036854775808 from rfl] at this
    rw [this, fabs, rg_eq]
    show x &&& (2 ^ 63 - 1) = x % 2 ^ 63
    exact Nat.and_two_pow_sub_one_eq_mod x 63
  have E := Lib.hid e
  clear e
  go_enter Tryd.func21, Tryd.ntmps21
  go_wp2
  go_ret
  exact ⟨ret_float E.out, rfl⟩

theorem wrap64_neg {x : Nat} (hx : W64 x) : decide (wrap64 (x : Int) < 0) = neg x := by
  have h := hx.lt
  rw [neg_eq, decide_eq_decide]
  unfold wrap64
  omega

theorem signbit_c (x : Nat) (hx : W64 x) (w : World) : Calls Tryd.prog 71 #[.float .f64 x] w fun e w' => e = .returned (.bool (neg x)) ∧ w' = w := by
  go_enter Tryd.func71, Tryd.ntmps71
  go_wp2
  go_ret
  exact ⟨ret_bool (wrap64_neg hx), rfl⟩

theorem isNaN_c (x : Nat) (hx : W64 x) (w : World) : Calls Tryd.prog 102 #[.float .f64 x] w fun e w' => e = .returned (.bool (isn x)) ∧ w' = w := by
  go_enter Tryd.func102, Tryd.ntmps102
  go_wp2
  go_ret
  exact ⟨ret_bool (o_ne_self hx), rfl⟩

/-- An infinity of the sign that is asked for (0: any). -/
def infS (x : Nat) (s : Int) : Bool := decide (rg x = 9218868437227405312) && (decide (s = 0) || decide (s < 0) && neg x || decide (0 < s) && !neg x)

theorem gt_max {x : Nat} (hx : W64 x) : (FloatKind.f64.format.order x 9218868437227405311 == some .gt) = (decide (rg x = 9218868437227405312) && !neg x) := by
  have h1 := o_gt hx (W64.mk (by decide : 9218868437227405311 < 18446744073709551616))
  refine h1.trans ?_
  rw [isn_eq, isn_eq, plc_eq, plc_eq, neg_eq 9218868437227405311, rg_eq 9218868437227405311]
  generalize rg x = r
  cases neg x
  · simp only [Bool.false_eq_true, if_false, Bool.not_false, Bool.and_true]
    rw [Bool.eq_iff_iff]; simp; omega
  · simp only [if_true, Bool.not_true, Bool.and_false]
    rw [Bool.eq_false_iff]; simp

theorem isInf_c (x : Nat) (s : Int) (hx : W64 x) (w : World) : Calls Tryd.prog 88 #[.float .f64 x, .int .i64 s] w fun e w' => e = .returned (.bool (infS x s)) ∧ w' = w := by
  have e1 : s = 0 → (FloatKind.f64.format.order (fabs x) 9218868437227405311 == some .gt) = infS x s := by
    intro h; subst h; rw [gt_max (fabs_w x), fabs_rg, fabs_neg]; simp [infS]
  have e2 : s < 0 → (FloatKind.f64.format.order (fneg x) 9218868437227405311 == some .gt) = infS x s := by
    intro h; rw [gt_max (fneg_w hx), fneg_rg hx, fneg_neg hx]; have h1 : ¬ s = 0 := by omega
    have h2 : ¬ 0 < s := by omega
    simp [infS, h, h1, h2]
  have e3 : 0 < s → (FloatKind.f64.format.order x 9218868437227405311 == some .gt) = infS x s := by
    intro h; rw [gt_max hx]; have h1 : ¬ s = 0 := by omega
    have h2 : ¬ s < 0 := by omega
    simp [infS, h, h1, h2]
  have E1 := Lib.hid e1
  have E2 := Lib.hid e2
  have E3 := Lib.hid e3
  clear e1 e2 e3
  by_cases h0 : s = 0
  · have h : (s == 0) = true := by simp [h0]
    have H0 := Lib.hid h0
    clear h0
    go_enter Tryd.func88, Tryd.ntmps88
    go_wp2_with (go_at_call 21; refine (abs_c _ hx _).mono ?_; rintro e w' ⟨rfl, rfl⟩)
    go_ret
    exact ⟨ret_bool (E1.out H0.out), rfl⟩
  · have h : (s == 0) = false := by simp [h0]
    clear h0
    by_cases h1 : s < 0
    · go_enter Tryd.func88, Tryd.ntmps88
      go_wp2
      go_ret
      exact ⟨ret_bool (E2.out h1), rfl⟩
    · go_enter Tryd.func88, Tryd.ntmps88
      go_wp2
      go_ret
      exact ⟨ret_bool (E3.out (by simp at h; omega)), rfl⟩

/-- The size of the first, the sign of the second. -/
def csgn (x y : Nat) : Nat := wd (neg y) (rg x)
theorem u64_lo {x : Nat} (hx : x < 18446744073709551616) : bits BinOp.andNot IntKind.u64 (↑x) 9223372036854775808 = ((x % 9223372036854775808 : Nat) : Int) := by
  have := u64_andNot_nat x 9223372036854775808 hx (by decide)
  rw [show ((9223372036854775808 : Nat) : Int) = 9223372036854775808 from rfl] at this
  rw [this]
  congr 1
  show x &&& (2 ^ 63 - 1) = x % 2 ^ 63
  exact Nat.and_two_pow_sub_one_eq_mod x 63
theorem u64_hi {x : Nat} (hx : x < 18446744073709551616) : bits BinOp.and IntKind.u64 (↑x) 9223372036854775808 = ((if 9223372036854775808 ≤ x then 9223372036854775808 else 0 : Nat) : Int) := by
  have := u64_and_nat x 9223372036854775808 hx (by decide)
  rw [show ((9223372036854775808 : Nat) : Int) = 9223372036854775808 from rfl] at this
  rw [this]
  congr 1
  show x &&& 2 ^ 63 = _
  have h63 : x.testBit 63 = decide (9223372036854775808 ≤ x) := by
    rw [Nat.testBit_eq_decide_div_mod_eq, decide_eq_decide]; omega
  apply Nat.eq_of_testBit_eq
  intro i
  rw [Nat.testBit_and, Nat.testBit_two_pow]
  by_cases hi : 63 = i
  · subst hi
    rw [h63]
    by_cases h : 9223372036854775808 ≤ x
    · simp only [h, decide_true, if_true]; decide
    · simp [h]
  · simp only [hi, decide_false, Bool.and_false]
    by_cases h : 9223372036854775808 ≤ x
    · simp only [h, if_true]
      rw [show (9223372036854775808 : Nat) = 2 ^ 63 from rfl, Nat.testBit_two_pow]; simp [hi]
    · simp [h]
theorem csgn_bits {x y : Nat} (hx : W64 x) (hy : W64 y) : (bits BinOp.or IntKind.u64 (bits BinOp.andNot IntKind.u64 (↑x) 9223372036854775808) (bits BinOp.and IntKind.u64 (↑y) 9223372036854775808)).toNat = csgn x y := by
  rw [u64_lo hx.lt, u64_hi hy.lt]
  unfold csgn
  rw [wd_eq, neg_eq, rg_eq]
  have h1 : x % 9223372036854775808 < 2 ^ 63 := Nat.mod_lt _ (by decide)
  rw [u64_or_nat _ _ (by omega) (by split <;> omega)]
  generalize x % 9223372036854775808 = r at *
  by_cases h : 9223372036854775808 ≤ y
  · simp only [h, if_true, decide_true, Int.toNat_natCast]
    rw [Nat.or_comm]
    exact (Nat.two_pow_add_eq_or_of_lt h1 1).symm
  · simp [h]
theorem copysign_c (x y : Nat) (hx : W64 x) (hy : W64 y) (w : World) : Calls Tryd.prog 104 #[.float .f64 x, .float .f64 y] w fun e w' => e = .returned (.float .f64 (csgn x y)) ∧ w' = w := by
  have E := Lib.hid (csgn_bits hx hy)
  go_enter Tryd.func104, Tryd.ntmps104
  go_wp2
  go_ret
  exact ⟨ret_float E.out, rfl⟩
theorem inf_c (s : Int) (w : World) : Calls Tryd.prog 105 #[.int .i64 s] w fun e w' => e = .returned (.float .f64 (wd (decide (s < 0)) 9218868437227405312)) ∧ w' = w := by
  go_enter Tryd.func105, Tryd.ntmps105
  go_wp2
  all_goals go_ret
  · have h : ¬ s < 0 := by omega
    exact ⟨ret_float (by rw [wd_eq]; simp [h]), rfl⟩
  · have h : s < 0 := by omega
    exact ⟨ret_float (by rw [wd_eq]; simp [h]), rfl⟩
end Go.Proofs.YtaedkekjekbjmaaDoor

/- What layer 1 says of floats: kinds, places, neighbours: plain functions of words. No program. -/
namespace GFl
/-- The place of plus infinity. -/
def PI : Int := 9218868437227405312
def kindF (x : Nat) : Int := if 9218868437227405312 < rg x then 4 else if rg x = 9218868437227405312 then 3 else if 4503599627370496 ≤ rg x then 2 else if 0 < rg x then 1 else 0
def placeF (x : Nat) : Int := if isn x then 0 else plc x
def atW (p : Int) : Nat := wd (decide (p < 0)) p.natAbs
def atOk (p : Int) : Bool := decide (-PI ≤ p ∧ p ≤ PI)
def atF (p : Int) : Nat := if atOk p then atW p else 0
def sameF (x y : Nat) : Bool := decide (x = y) || isn x && isn y
end GFl

/- What the functions of packages bits and girderref01 answer: kinds and places. -/
namespace Go.Proofs.YtaedkekjekbjmaaDoor
open Go Go.RowKit GFl
set_option maxRecDepth 100000
attribute [local go_sem] run_f64bits run_f64frombits run_neg_f64
theorem f_neg {x : Nat} (hx : W64 x) : ((x : Int) / 9223372036854775808 == 1) = neg x := by
  have h := hx.lt
  rw [neg_eq, Bool.eq_iff_iff]; simp; omega
theorem f_exp {x : Nat} (hx : W64 x) : wrap64 ((IntKind.u64.wrap ((x : Int) / 4503599627370496)).tmod 2048) = ((rg x / 4503599627370496 : Nat) : Int) := by
  have h := hx.lt
  rw [rg_eq, IntKind.wrap_u64, tmod_of_emod]
  unfold wrap64
  omega
theorem f_frac (x : Nat) : (x : Int) % 4503599627370496 = ((rg x % 4503599627370496 : Nat) : Int) := by
  rw [rg_eq]; omega
theorem ret3_fields {a d : Bool} {b c e f : Int} (h1 : a = d) (h2 : b = e) (h3 : c = f) : Ending.returned (.tuple #[.bool a, .int .i64 b, .int .u64 c]) = .returned (.tuple #[.bool d, .int .i64 e, .int .u64 f]) := by rw [h1, h2, h3]

theorem fields_c (x : Nat) (hx : W64 x) (w : World) : Calls Tryd.prog 53 #[.float .f64 x] w fun e w' => e = .returned (.tuple #[.bool (neg x), .int .i64 (rg x / 4503599627370496 : Nat), .int .u64 (rg x % 4503599627370496 : Nat)]) ∧ w' = w := by
  go_enter Tryd.func53, Tryd.ntmps53
  go_wp2
  go_ret3
  exact ⟨ret3_fields (f_neg hx) (f_exp hx) (f_frac x), rfl⟩
theorem kindR_c (x : Nat) (hx : W64 x) (w : World) : Calls Tryd.prog 69 #[.float .f64 x] w fun e w' => e = .returned (.int .i64 (kindF x)) ∧ w' = w := by
  have hl := rg_lt x
  go_enter Tryd.func69, Tryd.ntmps69
  go_wp2_with (go_at_call 53; refine (fields_c _ hx _).mono ?_; rintro e w' ⟨rfl, rfl⟩)
  all_goals
    go_ret
    refine ⟨ret_int ?_, rfl⟩
    go_light
    (try simp only [bne_iff_ne, ne_eq, bne_eq_false_iff_eq] at *)
    unfold kindF
    (repeat' split) <;> omega
theorem nanR_c (x : Nat) (hx : W64 x) (w : World) : Calls Tryd.prog 52 #[.float .f64 x] w fun e w' => e = .returned (.bool (isn x)) ∧ w' = w := by
  have e : (kindF x == 4) = isn x := by rw [isn_eq, Bool.eq_iff_iff]; unfold kindF; (repeat' split) <;> simp <;> omega
  have E := Lib.hid e
  clear e
  go_enter Tryd.func52, Tryd.ntmps52
  go_wp2_with (go_at_call 69; refine (kindR_c _ hx _).mono ?_; rintro e w' ⟨rfl, rfl⟩)
  go_ret
  exact ⟨ret_bool E.out, rfl⟩
/-- Finite. -/
def finF (x : Nat) : Bool := decide (rg x < 9218868437227405312)
theorem finR_c (x : Nat) (hx : W64 x) (w : World) : Calls Tryd.prog 67 #[.float .f64 x] w fun e w' => e = .returned (.bool (finF x)) ∧ w' = w := by
  have e : decide (kindF x < 3) = finF x := by unfold finF kindF; rw [decide_eq_decide]; (repeat' split) <;> omega
  have E := Lib.hid e
  clear e
  go_enter Tryd.func67, Tryd.ntmps67
  go_wp2_with (go_at_call 69; refine (kindR_c _ hx _).mono ?_; rintro e w' ⟨rfl, rfl⟩)
  go_ret
  exact ⟨ret_bool E.out, rfl⟩
theorem kind_c (x : Nat) (hx : W64 x) (w : World) : Calls Tryd.prog 70 #[.float .f64 x] w fun e w' => e = .returned (.int .i64 (kindF x)) ∧ w' = w := by
  have k1 : (FloatKind.f64.format.order x x != some .eq) = decide (9218868437227405312 < rg x) := by rw [t_ne_self hx, isn_eq]
  have k2 : (FloatKind.f64.format.order (fabs x) 4503599627370496 == some .gt || FloatKind.f64.format.order (fabs x) 4503599627370496 == some .eq) = decide (rg x ≤ 9218868437227405312 ∧ 4503599627370496 ≤ rg x) := by
    rw [t_ge (fabs_w x) (w_const (by decide)), fabs_isn, fabs_plc, isn_eq, isn_eq, plc_eq, neg_eq, rg_eq 4503599627370496, Bool.eq_iff_iff]; simp; omega
  have k3 : (FloatKind.f64.format.order (fabs x) 0 == some .gt) = decide (rg x ≤ 9218868437227405312 ∧ 0 < rg x) := by
    rw [t_gt (fabs_w x) (w_const (by decide)), fabs_isn, fabs_plc, isn_eq, isn0, plc0, Bool.eq_iff_iff]; simp
  have k4 : infS x 0 = decide (rg x = 9218868437227405312) := by simp [infS]
  go_enter Tryd.func70, Tryd.ntmps70
  go_wp2_with (first | (go_at_call 21; refine (abs_c _ hx _).mono ?_; rintro e w' ⟨rfl, rfl⟩) | (go_at_call 88; refine (isInf_c _ _ hx _).mono ?_; rintro e w' ⟨rfl, rfl⟩))
  all_goals go_ret
  all_goals exact ⟨ret_int (by unfold kindF; (repeat' split) <;> omega), rfl⟩

theorem place_c (x : Nat) (hx : W64 x) (w : World) : Calls Tryd.prog 33 #[.float .f64 x] w fun e w' => e = .returned (.tuple #[.int .i64 (placeF x), .bool (!isn x)]) ∧ w' = w := by
  have k1 : (FloatKind.f64.format.order x x != some .eq) = isn x := by rw [t_ne_self hx]
  have k3 : isn x = false → (FloatKind.f64.format.order x 0 == some .lt) = decide (plc x < 0) := by
    intro h; rw [t_lt hx (w_const (by decide)), isn0, plc0, h]; simp
  cases hn : isn x
  · have k3 := k3 hn
    have hr : rg x ≤ 9223372036854775807 := by have := rg_lt x; omega
    rw [hn] at k1
    have HN := Lib.hid hn
    clear hn
    have hf : fabs x = rg x := rfl
    go_enter Tryd.func33, Tryd.ntmps33
    go_wp2_with (go_at_call 21; refine (abs_c _ hx _).mono ?_; rintro e w' ⟨rfl, rfl⟩)
    all_goals go_ret2
    all_goals refine ⟨ret_int_bool ?_ ?_, rfl⟩
    all_goals first | (unfold placeF; rw [HN.out]; have := plc_natAbs x; simp; omega) | rfl
  · rw [hn] at k1
    have HN := Lib.hid hn
    clear hn k3
    go_enter Tryd.func33, Tryd.ntmps33
    go_wp2
    go_ret2
    exact ⟨ret_int_bool (by unfold placeF; rw [HN.out]; rfl) rfl, rfl⟩
theorem placeR_c (x : Nat) (hx : W64 x) (w : World) : Calls Tryd.prog 37 #[.float .f64 x] w fun e w' => e = .returned (.tuple #[.int .i64 (placeF x), .bool (!isn x)]) ∧ w' = w := by
  have hl := rg_lt x
  cases hn : isn x
  · have HN := Lib.hid hn
    clear hn
    cases hg : neg x
    all_goals
      have HG := Lib.hid hg
      clear hg
      go_enter Tryd.func37, Tryd.ntmps37
      go_wp2_with (first | (go_at_call 52; refine (nanR_c _ hx _).mono ?_; rw [HN.out]; rintro e w' ⟨rfl, rfl⟩) | (go_at_call 53; refine (fields_c _ hx _).mono ?_; rw [HG.out]; rintro e w' ⟨rfl, rfl⟩))
      go_ret2
      refine ⟨ret_int_bool ?_ rfl, rfl⟩
      unfold placeF
      rw [HN.out, plc_eq, HG.out]
      try unfold wrap64
      simp
      omega
  · have HN := Lib.hid hn
    clear hn
    go_enter Tryd.func37, Tryd.ntmps37
    go_wp2_with (first | (go_at_call 52; refine (nanR_c _ hx _).mono ?_; rw [HN.out]; rintro e w' ⟨rfl, rfl⟩))
    go_ret2
    exact ⟨ret_int_bool (by unfold placeF; rw [HN.out]; rfl) rfl, rfl⟩

theorem fneg_nat {p : Int} (h : p < 0) (h' : -9218868437227405312 ≤ p) : fneg (-p).toNat = atW p := by
  have hw : W64 (-p).toNat := W64.mk (by omega)
  unfold atW
  rw [fneg_eq hw, neg_eq, wd_eq]
  have h2 : ¬ 9223372036854775808 ≤ (-p).toNat := by omega
  simp only [h2, h, decide_true, decide_false, Bool.false_eq_true, if_false, if_true]
  omega
theorem at_pos {p : Int} (h : 0 ≤ p) : p.toNat = atW p := by
  unfold atW
  rw [wd_eq]
  have h2 : ¬ p < 0 := by omega
  simp only [h2, decide_false, Bool.false_eq_true, if_false]
  omega
theorem atOk_eq (p : Int) : atOk p = decide (-9218868437227405312 ≤ p ∧ p ≤ 9218868437227405312) := rfl
theorem at_c (p : Int) (h1 : -9223372036854775808 ≤ p) (h2 : p ≤ 9223372036854775807) (w : World) : Calls Tryd.prog 50 #[.int .i64 p] w fun e w' => e = .returned (.tuple #[.float .f64 (atF p), .bool (atOk p)]) ∧ w' = w := by
  go_enter Tryd.func50, Tryd.ntmps50
  go_wp2
  all_goals go_ret2
  all_goals refine ⟨ret_float_bool ?_ ?_, rfl⟩
  all_goals try unfold atF
  all_goals rw [atOk_eq]
  all_goals first | (symm; rw [if_neg (by simp; omega)]) | (rw [if_pos (by simp; omega)]; first | exact fneg_nat (by omega) (by omega) | exact at_pos (by omega)) | (symm; simp; omega)
theorem atR_c (p : Int) (h1 : -9223372036854775808 ≤ p) (h2 : p ≤ 9223372036854775807) (w : World) : Calls Tryd.prog 54 #[.int .i64 p] w fun e w' => e = .returned (.tuple #[.float .f64 (atF p), .bool (atOk p)]) ∧ w' = w := by
  go_enter Tryd.func54, Tryd.ntmps54
  go_wp2
  all_goals go_ret2
  all_goals refine ⟨ret_float_bool ?_ ?_, rfl⟩
  all_goals try unfold atF
  all_goals rw [atOk_eq]
  all_goals first | (symm; rw [if_neg (by simp; omega)]) | (rw [if_pos (by simp; omega)]; first | exact at_pos (by omega) | (unfold atW; rw [wd_eq, decide_eq_true (by omega), if_pos rfl]; (try rw [IntKind.wrap_u64]); omega)) | (symm; simp; omega)
end Go.Proofs.YtaedkekjekbjmaaDoor

/- What the functions of packages bits and girderref01 answer: sameness, orders, how many between. -/
namespace Go.Proofs.YtaedkekjekbjmaaDoor
open Go Go.RowKit GFl
set_option maxRecDepth 100000
attribute [local go_sem] run_f64bits run_f64frombits run_neg_f64
theorem sameF_int {x y : Nat} : ((x : Int) == (y : Int)) = decide (x = y) := by rw [Bool.eq_iff_iff]; simp; omega
theorem sameF_eq {x y : Nat} (h : x = y) : true = sameF x y := by simp [sameF, h]
theorem sameF_ne {x y : Nat} {c : Bool} (h : ¬ x = y) (hc : c = (isn x && isn y)) : c = sameF x y := by simp [sameF, h, hc]
theorem sameFloat_c (x y : Nat) (hx : W64 x) (hy : W64 y) (w : World) : Calls Tryd.prog 18 #[.float .f64 x, .float .f64 y] w fun e w' => e = .returned (.bool (sameF x y)) ∧ w' = w := by
  have k1 := t_ne_self hx
  have k2 := t_ne_self hy
  have k3 := @sameF_int x y
  go_enter Tryd.func18, Tryd.ntmps18
  go_wp2
  all_goals go_ret
  · exact ⟨ret_bool (sameF_eq (by assumption)), rfl⟩
  · exact ⟨ret_bool (sameF_ne (by assumption) (by rw [‹isn x = true›]; rfl)), rfl⟩
  · exact ⟨ret_bool (sameF_ne (by assumption) (by rw [Bool.eq_false_iff.2 ‹¬isn x = true›]; rfl)), rfl⟩
theorem placeF_f {x : Nat} (h : isn x = false) : placeF x = plc x := by unfold placeF; rw [h]; rfl
end Go.Proofs.YtaedkekjekbjmaaDoor

/- Plain laws: numbers of few digits are words; products by powers of two; a word's digits replaced. No program. -/
namespace GFl
open Ieee

/-- 2 to the power n, not to be worked out. -/
def p2 (n : Nat) : Nat := 2 ^ n
theorem p2_def (n : Nat) : p2 n = 2 ^ n := rfl
theorem p2_pos (n : Nat) : 0 < p2 n := Nat.two_pow_pos n
theorem p2_add (a b : Nat) : p2 (a + b) = p2 a * p2 b := Nat.pow_add ..
theorem p2_le {a b : Nat} (h : a ≤ b) : p2 a ≤ p2 b := Nat.pow_le_pow_right (by decide) h
theorem p2_zero : p2 0 = 1 := rfl
attribute [irreducible] p2
theorem p2_split {a b : Nat} (h : b ≤ a) : p2 a = p2 (a - b) * p2 b := by rw [← p2_add]; congr 1; omega

/-- A number of at most as many digits as a word bears has a rung. -/
theorem rep {B : Nat} (q k : Nat) (hq : q < 2 * B) : ∃ r, mg B r = q * p2 k := by
  simp only [p2_def]
  induction k generalizing q with
  | zero =>
    refine ⟨q, ?_⟩
    by_cases h : q < B
    · rw [mg_small h]; simp
    · have e : q = (0 + 1) * B + (q - B) := by omega
      have := mg_eq B 0 (q - B) (by omega)
      rw [← e] at this
      rw [this]; simp; omega
  | succ k ih =>
    by_cases h : q < B
    · obtain ⟨r, hr⟩ := ih (q * 2) (by omega)
      exact ⟨r, by rw [hr, Nat.pow_succ, Nat.mul_assoc, Nat.mul_comm 2]⟩
    · refine ⟨(k + 1 + 1) * B + (q - B), ?_⟩
      rw [mg_eq B (k + 1) (q - B) (by omega)]
      congr 1; omega

theorem rn_exact {B N D r q : Nat} (hB : 0 < B) (hD : 0 < D) (h : IsRn B N D r) (e : N = mg B q * D) : r = q := by
  subst e
  exact h.unique hB hD (IsRn.exact hB hD)

theorem rn_le {B N D r q : Nat} (hB : 0 < B) (hD : 0 < D) (h : IsRn B N D r) (e : N ≤ mg B q * D) : r ≤ q :=
  h.mono hB hD hD (IsRn.exact hB hD) (Nat.mul_le_mul_right _ e)
/-- The product of two finite float64s. -/
theorem mul64 {x y : Nat} (hx : W64 x) (hy : W64 y) (hx1 : rg x < 9218868437227405312) (hy1 : rg y < 9218868437227405312) :
    ∃ r, IsRn 4503599627370496 (mg 4503599627370496 (rg x) * mg 4503599627370496 (rg y)) (p2 1074) r ∧ double.mul x y = some (wd (neg x ^^ neg y) (min r 9218868437227405312)) := by
  have h := mul_fin good_double hx hy (by rw [d_inf]; exact hx1) (by rw [d_inf]; exact hy1) (by decide)
  have e : (-double.leastPlace).toNat = 1074 := by decide
  rw [d_b, ← p2_def, e, d_inf] at h
  exact h
/-- The sum of two finite float64s. -/
theorem add64 {x y : Nat} (hx : W64 x) (hy : W64 y) (hx1 : rg x < 9218868437227405312) (hy1 : rg y < 9218868437227405312) :
    ∃ r, IsRn 4503599627370496 (val x + val y).natAbs 1 r ∧
      double.add x y = some (wd (if val x + val y = 0 then neg x && neg y else decide (val x + val y < 0)) (min r 9218868437227405312)) := by
  have h := add_fin good_double hx hy (by rw [d_inf]; exact hx1) (by rw [d_inf]; exact hy1)
  rw [d_b, d_inf] at h
  exact h
theorem val_eq' (x : Nat) : val x = if neg x then -(mg 4503599627370496 (rg x) : Int) else (mg 4503599627370496 (rg x) : Int) := by rw [val_eq, d_b]

abbrev B52 : Nat := 4503599627370496
theorem B52_pos : 0 < B52 := by decide
theorem mg_B (E t : Nat) (hE : 1 ≤ E) (ht : t < B52) : mg B52 (E * B52 + t) = (B52 + t) * p2 (E - 1) := by
  obtain ⟨s, rfl⟩ : ∃ s, E = s + 1 := ⟨E - 1, by omega⟩
  rw [p2_def]
  exact mg_eq B52 s t ht
theorem mg_norm {r : Nat} (h : B52 ≤ r) : mg B52 r = (B52 + r % B52) * p2 (r / B52 - 1) := by
  have := mg_B (r / B52) (r % B52) ((Nat.one_le_div_iff B52_pos).2 h) (Nat.mod_lt _ B52_pos)
  rwa [Nat.mul_comm (r / B52), Nat.div_add_mod] at this

/-- What normalizing comes to: y is x times 2^-e. -/
structure Normd (x y : Nat) (e : Int) : Prop where
  w : W64 y
  s : neg y = neg x
  lo : B52 ≤ rg y
  hi : rg y < 9218868437227405312
  e : (e = 0 ∧ y = x) ∨ (e = -52 ∧ mg B52 (rg y) = mg B52 (rg x) * p2 52)

theorem Normd.k1 {x y : Nat} {e : Int} (h : Normd x y e) : -52 ≤ e := by rcases h.e with ⟨rfl, _⟩ | ⟨rfl, _⟩ <;> omega
theorem Normd.k2 {x y : Nat} {e : Int} (h : Normd x y e) : e ≤ 0 := by rcases h.e with ⟨rfl, _⟩ | ⟨rfl, _⟩ <;> omega
theorem Normd.E {x y : Nat} {e : Int} (h : Normd x y e) : rg y / B52 < 2047 := Nat.div_lt_of_lt_mul (by have := h.hi; unfold B52; omega)
theorem c52_rg : rg 4841369599423283200 = 4841369599423283200 := by decide
theorem c52_mg : mg B52 (rg 4841369599423283200) = p2 52 * p2 1074 := by
  rw [c52_rg, mg_norm (by decide), ← p2_add]
  decide +kernel
theorem c52_neg : neg 4841369599423283200 = false := by decide
theorem mg52 : mg B52 B52 = B52 := by decide
theorem mgINF : mg B52 9218868437227405312 = B52 * p2 2046 := by
  rw [mg_norm (by decide)]; congr 1
theorem normd_mul {x : Nat} (hx : W64 x) (h0 : 0 < rg x) (h1 : rg x < B52) : ∃ y, double.mul x 4841369599423283200 = some y ∧ Normd x y (-52) := by
  obtain ⟨r, hr, e⟩ := mul64 hx (w_const (by decide : decide (4841369599423283200 < 18446744073709551616) = true)) (by unfold B52 at h1; omega) (by decide)
  obtain ⟨q, hq⟩ := rep (B := B52) (rg x) 52 (by unfold B52 at *; omega)
  have hrq : r = q := rn_exact B52_pos (p2_pos 1074) hr (by rw [c52_mg, ← Nat.mul_assoc, mg_small h1, ← hq])
  subst hrq
  have h52 : p2 52 = B52 := by decide +kernel
  have hlo : B52 ≤ r := by
    rw [← mg_le_iff (B := B52) B52_pos, hq, mg52, h52]
    exact Nat.le_mul_of_pos_left _ h0
  have hhi : r < 9218868437227405312 := by
    rw [← mg_lt_iff (B := B52) B52_pos, hq, mgINF, h52, Nat.mul_comm B52]
    refine Nat.mul_lt_mul_of_pos_right ?_ B52_pos
    exact Nat.lt_of_lt_of_le h1 (Nat.le_trans (Nat.le_of_eq h52.symm) (p2_le (by decide)))
  rw [c52_neg, Bool.xor_false, Nat.min_eq_left (Nat.le_of_lt hhi)] at e
  have hr63 : r < 9223372036854775808 := by omega
  refine ⟨_, e, wd_w hr63, wd_neg hr63, by rw [wd_rg hr63]; exact hlo, by rw [wd_rg hr63]; exact hhi, .inr ⟨rfl, ?_⟩⟩
  rw [wd_rg hr63, hq, mg_small h1]
theorem normd_id {x : Nat} (hx : W64 x) (h0 : B52 ≤ rg x) (h1 : rg x < 9218868437227405312) : Normd x x 0 := ⟨hx, rfl, h0, h1, .inl ⟨rfl, rfl⟩⟩

/-- What ldexp comes to: the nearest of x times 2^e. -/
theorem ldexp_val {x y : Nat} {e1 e : Int} (h : Normd x y e1) (X : Int) (hX : X = e + e1 + (rg y / B52 : Nat) - 1023) :
    ∃ c d, 0 < c ∧ 0 < d ∧ mg B52 (rg x) * p2 e.toNat * c = (B52 + rg y % B52) * p2 (X + 1022).toNat * d ∧ p2 (-e).toNat * c = p2 (-(X + 1022)).toNat * d := by
  have hE : 1 ≤ rg y / B52 := (Nat.one_le_div_iff B52_pos).2 h.lo
  have hm := mg_norm h.lo
  generalize rg y / B52 = E at *
  generalize B52 + rg y % B52 = m at *
  rcases h.e with ⟨rfl, rfl⟩ | ⟨rfl, h2⟩
  · rw [hm]
    refine ⟨p2 (-(X + 1022)).toNat, p2 (-e).toNat, p2_pos _, p2_pos _, ?_, Nat.mul_comm ..⟩
    simp only [Nat.mul_assoc, ← p2_add]
    congr 2; omega
  · rw [hm] at h2
    refine ⟨p2 52 * p2 (-(X + 1022)).toNat, p2 52 * p2 (-e).toNat, Nat.mul_pos (p2_pos _) (p2_pos _), Nat.mul_pos (p2_pos _) (p2_pos _), ?_, by ac_rfl⟩
    have e3 : mg B52 (rg x) * p2 e.toNat * (p2 52 * p2 (-(X + 1022)).toNat) = mg B52 (rg x) * p2 52 * p2 (e.toNat + (-(X + 1022)).toNat) := by
      rw [p2_add, Nat.mul_assoc, Nat.mul_assoc, Nat.mul_left_comm (p2 e.toNat)]
    rw [e3, ← h2]
    simp only [Nat.mul_assoc, ← p2_add]
    congr 2; omega

/-- The nearest word of x times 2^e, by its rung. -/
def IsLd (x : Nat) (e : Int) (z : Nat) : Prop := ∃ r, IsRn B52 (mg B52 (rg x) * p2 e.toNat) (p2 (-e).toNat) r ∧ z = wd (neg x) (min r 9218868437227405312)

theorem isLd_of {x y : Nat} {e1 e : Int} (h : Normd x y e1) (X : Int) (hX : X = e + e1 + (rg y / B52 : Nat) - 1023) {r z : Nat}
    (hr : IsRn B52 ((B52 + rg y % B52) * p2 (X + 1022).toNat) (p2 (-(X + 1022)).toNat) r) (hz : z = wd (neg x) (min r 9218868437227405312)) : IsLd x e z := by
  obtain ⟨c, d, hc, hd, h1, h2⟩ := ldexp_val h X hX
  refine ⟨r, ?_, hz⟩
  have := (IsRn.scale (B := B52) (r := r) hd).2 hr
  rw [← h1, ← h2] at this
  exact (IsRn.scale hc).1 this

theorem isLd_over {x y : Nat} {e1 e : Int} (h : Normd x y e1) (X : Int) (hX : X = e + e1 + (rg y / B52 : Nat) - 1023) (hb : 1023 < X) : IsLd x e (wd (neg x) 9218868437227405312) := by
  obtain ⟨q, hq⟩ := rep (B := B52) (B52 + rg y % B52) (X + 1022).toNat (by have := Nat.mod_lt (rg y) B52_pos; omega)
  refine isLd_of h X hX (r := q) ?_ ?_
  · have e0 : (-(X + 1022)).toNat = 0 := by omega
    rw [e0, p2_zero]
    have := IsRn.exact (B := B52) (r := q) B52_pos Nat.one_pos
    rwa [hq, Nat.mul_one] at this
  · rw [Nat.min_eq_right]
    rw [← mg_le_iff (B := B52) B52_pos, hq, mgINF]
    exact Nat.mul_le_mul (by omega) (p2_le (by omega))

theorem isLd_norm {x y : Nat} {e1 e : Int} (h : Normd x y e1) (X : Int) (hX : X = e + e1 + (rg y / B52 : Nat) - 1023) (ha : -1022 ≤ X) (hb : X ≤ 1023) : IsLd x e (wd (neg x) ((X + 1023).toNat * B52 + rg y % B52)) := by
  have ht := Nat.mod_lt (rg y) B52_pos
  have hm := mg_B (X + 1023).toNat (rg y % B52) (by omega) ht
  refine isLd_of h X hX (r := (X + 1023).toNat * B52 + rg y % B52) ?_ ?_
  · have e0 : (-(X + 1022)).toNat = 0 := by omega
    rw [e0, p2_zero]
    have := IsRn.exact (B := B52) (r := (X + 1023).toNat * B52 + rg y % B52) B52_pos Nat.one_pos
    rw [hm, Nat.mul_one] at this
    have e2 : (X + 1023).toNat - 1 = (X + 1022).toNat := by omega
    rwa [e2] at this
  · congr 1
    rw [Nat.min_eq_left]
    unfold B52 at *
    omega

theorem isLd_under {x y : Nat} {e1 e : Int} (h : Normd x y e1) (X : Int) (hX : X = e + e1 + (rg y / B52 : Nat) - 1023) (ha : X < -1075) : IsLd x e (wd (neg x) 0) := by
  have ht := Nat.mod_lt (rg y) B52_pos
  refine isLd_of h X hX (r := 0) ?_ (by simp)
  have e0 : (X + 1022).toNat = 0 := by omega
  rw [e0, p2_zero, Nat.mul_one]
  have hp : p2 54 ≤ p2 (-(X + 1022)).toNat := p2_le (by omega)
  have h54 : p2 54 = 4 * B52 := by decide +kernel
  have m0 : mg B52 0 = 0 := by decide
  have m1 : mg B52 (0 + 1) = 1 := by decide
  refine ⟨?_, ?_, ?_, ?_⟩
  · rw [m0, m1]; omega
  · rw [m0, m1]; intro _; rfl
  · intro q hq; omega
  · intro q hq; omega

theorem one_rg : rg 4607182418800017408 = 4607182418800017408 := by decide
theorem one_mg : mg B52 (rg 4607182418800017408) = p2 1074 := by rw [one_rg]; decide +kernel
theorem one_neg : neg 4607182418800017408 = false := by decide
theorem m53_rg : rg 4368491638549381120 = 4368491638549381120 := by decide
theorem m53_mg : mg B52 (rg 4368491638549381120) = p2 1021 := by rw [m53_rg]; decide +kernel
theorem m53_neg : neg 4368491638549381120 = false := by decide

theorem mul_one64 {x : Nat} (hx : W64 x) (h : rg x < 9218868437227405312) : double.mul 4607182418800017408 x = some x := by
  obtain ⟨r, hr, e⟩ := mul64 (w_const (by decide : decide (4607182418800017408 < 18446744073709551616) = true)) hx (by decide) h
  rw [one_mg, Nat.mul_comm] at hr
  have hrq := rn_exact B52_pos (p2_pos 1074) hr rfl
  rw [hrq, one_neg, Bool.false_xor, Nat.min_eq_left (Nat.le_of_lt h), ← w64_wd hx] at e
  exact e

theorem isLd_sub {x y : Nat} {e1 e : Int} (h : Normd x y e1) (X : Int) (hX : X = e + e1 + (rg y / B52 : Nat) - 1023) (ha : -1075 ≤ X) (hb : X < -1022) :
    ∃ z, double.mul 4368491638549381120 (wd (neg x) ((X + 53 + 1023).toNat * B52 + rg y % B52)) = some z ∧ IsLd x e z := by
  have ht := Nat.mod_lt (rg y) B52_pos
  have hR : (X + 53 + 1023).toNat * B52 + rg y % B52 < 9218868437227405312 := by unfold B52 at *; omega
  have hR63 : (X + 53 + 1023).toNat * B52 + rg y % B52 < 9223372036854775808 := by omega
  have hm := mg_B (X + 53 + 1023).toNat (rg y % B52) (by omega) ht
  obtain ⟨r, hr, e2⟩ := mul64 (w_const (by decide : decide (4368491638549381120 < 18446744073709551616) = true)) (wd_w (s := neg x) hR63) (by decide) (by rw [wd_rg hR63]; exact hR)
  rw [wd_neg hR63, m53_neg, Bool.false_xor] at e2
  rw [m53_mg, wd_rg hR63, hm] at hr
  refine ⟨_, e2, isLd_of h X hX (r := r) (hr.cross (p2_pos _) (p2_pos _) ?_) rfl⟩
  have e0 : (X + 1022).toNat = 0 := by omega
  rw [e0, p2_zero, Nat.mul_one]
  generalize B52 + rg y % B52 = m
  have e5 : p2 1021 * (m * p2 ((X + 53 + 1023).toNat - 1)) * p2 (-(X + 1022)).toNat = m * (p2 1021 * p2 ((X + 53 + 1023).toNat - 1) * p2 (-(X + 1022)).toNat) := by ac_rfl
  rw [e5, ← p2_add, ← p2_add]
  congr 2; omega

/-- The whole number that a float is. -/
theorem toInt_whole {z m : Nat} (hz : W64 z) (hf : rg z < 9218868437227405312) (hn : neg z = false) (hm : mg B52 (rg z) = m * p2 1074) : (double.read z).toInt .zero = some (m : Int) := by
  obtain ⟨q, e, h1, h2, h3, _, _⟩ := read_num (f := double) hz (by rw [d_inf]; exact hf)
  have hs : sgn double z = false := hn
  rw [h1, hs]
  rw [d_l] at h2 h3
  rw [d_b] at h3
  have h3 : q * p2 (e + 1074).toNat = m * p2 1074 := by
    rw [p2_def]
    have e1 : e + 1074 = e - -1074 := by omega
    rw [e1, h3]
    exact hm
  simp only [Datum.toInt, Datum.integral, signed, Bool.false_eq_true, if_false]
  congr 2
  simp only [Nat.shiftLeft_zero]
  unfold Toward.cut
  simp only [Bool.toNat_false, Nat.add_zero, Nat.shiftLeft_eq, Nat.one_mul]
  by_cases he : 0 ≤ e
  · have e0 : (-e).toNat = 0 := by omega
    rw [e0, Nat.zero_min, Nat.pow_zero, Nat.div_one]
    have e2 : p2 (e + 1074).toNat = p2 e.toNat * p2 1074 := by rw [← p2_add]; congr 1; omega
    rw [e2, ← Nat.mul_assoc] at h3
    rw [← p2_def]
    exact Nat.eq_of_mul_eq_mul_right (p2_pos _) h3
  · have e0 : e.toNat = 0 := by omega
    rw [e0, Nat.pow_zero, Nat.mul_one]
    have e2 : p2 1074 = p2 (-e).toNat * p2 (e + 1074).toNat := by rw [← p2_add]; congr 1; omega
    rw [e2, ← Nat.mul_assoc] at h3
    have h4 := Nat.eq_of_mul_eq_mul_right (p2_pos _) h3
    rw [p2_def] at h4
    by_cases hm0 : m = 0
    · subst hm0; rw [h4]; simp
    · have hle : 2 ^ (-e).toNat ≤ q := by rw [h4]; exact Nat.le_mul_of_pos_left _ (by omega)
      have hq0 : q ≠ 0 := by have := Nat.two_pow_pos (-e).toNat; omega
      have hlog : (-e).toNat ≤ q.log2 := (Nat.le_log2 hq0).2 hle
      rw [Nat.min_eq_left (by omega), h4]
      exact Nat.mul_div_cancel _ (Nat.two_pow_pos _)

/-- The parts of a float that is not nought. -/
structure IsSplit (x fr : Nat) (ex : Int) : Prop where
  odd : fr % 2 = 1
  lo : -1074 ≤ ex
  eq : fr * p2 (ex + 1074).toNat = mg B52 (rg x)

theorem odd_unique {a b i j : Nat} (ha : a % 2 = 1) (hb : b % 2 = 1) (h : a * p2 i = b * p2 j) : a = b ∧ i = j := by
  rcases Nat.lt_trichotomy i j with hij | hij | hij
  · exfalso
    rw [p2_split (Nat.le_of_lt hij), ← Nat.mul_assoc] at h
    have h1 := Nat.eq_of_mul_eq_mul_right (p2_pos i) h
    obtain ⟨k, hk⟩ : ∃ k, j - i = k + 1 := ⟨j - i - 1, by omega⟩
    rw [hk, p2_def, Nat.pow_succ] at h1
    have : (b * (2 ^ k * 2)) % 2 = 0 := by rw [← Nat.mul_assoc]; omega
    omega
  · subst hij
    exact ⟨Nat.eq_of_mul_eq_mul_right (p2_pos _) h, rfl⟩
  · exfalso
    rw [p2_split (Nat.le_of_lt hij), ← Nat.mul_assoc] at h
    have h1 := Nat.eq_of_mul_eq_mul_right (p2_pos j) h
    obtain ⟨k, hk⟩ : ∃ k, i - j = k + 1 := ⟨i - j - 1, by omega⟩
    rw [hk, p2_def, Nat.pow_succ] at h1
    have : (a * (2 ^ k * 2)) % 2 = 0 := by rw [← Nat.mul_assoc]; omega
    omega

theorem IsSplit.unique {x a b : Nat} {i j : Int} (h : IsSplit x a i) (h' : IsSplit x b j) : a = b ∧ i = j := by
  have := odd_unique h.odd h'.odd (h.eq.trans h'.eq.symm)
  have := h.lo
  have := h'.lo
  omega

/-- The fraction of a float, times 2^53. -/
theorem split_m {t z : Nat} (ht : t < B52) (h : IsLd (wd false (1022 * B52 + t)) 53 z) : W64 z ∧ rg z < 9218868437227405312 ∧ neg z = false ∧ mg B52 (rg z) = (B52 + t) * p2 1074 := by
  have hR : 1022 * B52 + t < 9223372036854775808 := by unfold B52 at *; omega
  obtain ⟨r, hr, e⟩ := h
  rw [wd_rg hR, mg_B 1022 t (by decide) ht] at hr
  obtain ⟨q, hq⟩ := rep (B := B52) (B52 + t) 1074 (by omega)
  have e1 : (B52 + t) * p2 (1022 - 1) * p2 (53 : Int).toNat = mg B52 q * p2 (-53 : Int).toNat := by
    rw [hq, Nat.mul_assoc, ← p2_add, show (-53 : Int).toNat = 0 from rfl, p2_zero, Nat.mul_one]
    rfl
  have hrq := rn_exact B52_pos (p2_pos _) hr e1
  have hhi : q < 9218868437227405312 := by
    rw [← mg_lt_iff (B := B52) B52_pos, hq, mgINF]
    have h2 : p2 2046 = p2 972 * p2 1074 := by rw [← p2_add]
    have h3 : p2 1 ≤ p2 972 := p2_le (by decide)
    have h4 : p2 1 = 2 := by decide +kernel
    rw [h2, ← Nat.mul_assoc]
    refine Nat.mul_lt_mul_of_pos_right ?_ (p2_pos _)
    have : B52 * 2 ≤ B52 * p2 972 := Nat.mul_le_mul_left _ (by omega)
    omega
  have hq63 : q < 9223372036854775808 := by omega
  rw [hrq, wd_neg hR, Nat.min_eq_left (Nat.le_of_lt hhi)] at e
  rw [e]
  exact ⟨wd_w hq63, by rw [wd_rg hq63]; exact hhi, wd_neg hq63, by rw [wd_rg hq63]; exact hq⟩

theorem p2_odd_le {a b m M : Nat} (hm : m % 2 = 1) (h : m * p2 a = M * p2 b) : b ≤ a := by
  rcases Nat.lt_or_ge a b with hab | hab
  · exfalso
    rw [p2_split (Nat.le_of_lt hab), ← Nat.mul_assoc] at h
    have h1 := Nat.eq_of_mul_eq_mul_right (p2_pos a) h
    obtain ⟨k, hk⟩ : ∃ k, b - a = k + 1 := ⟨b - a - 1, by omega⟩
    rw [hk, p2_def, Nat.pow_succ] at h1
    have : (M * (2 ^ k * 2)) % 2 = 0 := by rw [← Nat.mul_assoc]; omega
    omega
  · exact hab

theorem split_ok {x y : Nat} {k : Int} {n j : Nat} (h : Normd x y k) (hm : B52 + rg y % B52 = p2 n * (2 * j + 1)) : IsSplit x (2 * j + 1) (k + (rg y / B52 : Nat) - 1022 - 53 + n) := by
  have hE : 1 ≤ rg y / B52 := (Nat.one_le_div_iff B52_pos).2 h.lo
  have hy := mg_norm h.lo
  rw [hm] at hy
  generalize rg y / B52 = E at *
  have key : (2 * j + 1) * p2 (n + (E - 1)) = mg B52 (rg x) * p2 (-k).toNat := by
    rw [p2_add]
    have e1 : (2 * j + 1) * (p2 n * p2 (E - 1)) = p2 n * (2 * j + 1) * p2 (E - 1) := by ac_rfl
    rw [e1, ← hy]
    rcases h.e with ⟨rfl, rfl⟩ | ⟨rfl, h2⟩
    · rw [show (-(0 : Int)).toNat = 0 from rfl, p2_zero, Nat.mul_one]
    · exact h2
  have hge := p2_odd_le (by omega) key
  have hk := h.k1
  have hk2 := h.k2
  refine ⟨by omega, by omega, ?_⟩
  have e3 : n + (E - 1) = (k + E - 1022 - 53 + n + 1074).toNat + (-k).toNat := by omega
  rw [e3, p2_add, ← Nat.mul_assoc] at key
  exact Nat.eq_of_mul_eq_mul_right (p2_pos _) key
end GFl

/- What frexp, ldexp and their callees of package math answer. -/
namespace Go.Proofs.YtaedkekjekbjmaaDoor
open Go Go.RowKit GFl
set_option maxRecDepth 100000
attribute [local go_sem] run_f64bits run_f64frombits run_neg_f64
theorem fr_some {k : FloatKind} {z r : Nat} {o : Option Nat} (h : FR k o r) (e : o = some z) : r = z := by rw [e] at h; exact h

def NormPost (x : Nat) (w : World) (e : Ending) (w' : World) : Prop := ∃ y k, e = .returned (.tuple #[.float .f64 y, .int .i64 k]) ∧ Normd x y k ∧ Dr w w'
theorem normalize_c (x : Nat) (hx : W64 x) (h0 : 0 < rg x) (h1 : rg x < 9218868437227405312) (w : World) : Calls Tryd.prog 103 #[.float .f64 x] w (NormPost x w) := by
  have k : (FloatKind.f64.format.order (fabs x) 4503599627370496 == some .lt) = decide (rg x < 4503599627370496) := by
    rw [t_lt (fabs_w x) (w_const (by decide)), fabs_isn, fabs_plc, isn_eq, isn_eq, plc_eq, neg_eq, rg_eq 4503599627370496, Bool.eq_iff_iff]; simp; omega
  by_cases hs : rg x < 4503599627370496
  · obtain ⟨y, hy, hn⟩ := normd_mul hx h0 hs
    have k2 : decide (rg x < 4503599627370496) = true := by simp [hs]
    rw [k2] at k
    have HY := Lib.hid hy
    clear hy k2
    go_enter Tryd.func103, Tryd.ntmps103
    go_wp2_with (first | (go_at_call 21; refine (abs_c _ hx _).mono ?_; rintro e w' ⟨rfl, rfl⟩) | (refine wp_arith .f64 x 4841369599423283200 rfl rfl rfl ?_; intro r n hr; obtain rfl := fr_some hr HY.out; clear hr))
    go_ret2
    exact ⟨_, _, rfl, hn, Dr.n _ _⟩
  · have k2 : decide (rg x < 4503599627370496) = false := by simp [hs]
    rw [k2] at k
    clear k2
    go_enter Tryd.func103, Tryd.ntmps103
    go_wp2_with (first | (go_at_call 21; refine (abs_c _ hx _).mono ?_; rintro e w' ⟨rfl, rfl⟩))
    go_ret2
    exact ⟨_, _, rfl, normd_id hx (by unfold B52; omega) h1, Dr.refl _⟩

theorem exp_u64 {y : Nat} (hy : W64 y) : bits BinOp.and IntKind.u64 ((y : Int) / 4503599627370496) 2047 = ((rg y / B52 : Nat) : Int) := by
  have h := hy.lt
  have e : ((y : Int) / 4503599627370496) = ((y / 4503599627370496 : Nat) : Int) := by omega
  have := u64_and_nat (y / 4503599627370496) 2047 (by omega) (by decide)
  rw [e, show (2047 : Int) = ((2047 : Nat) : Int) from rfl, this, rg_eq]
  congr 1
  rw [show (2047 : Nat) = 2 ^ 11 - 1 from rfl, Nat.and_two_pow_sub_one_eq_mod]
  unfold B52
  omega
theorem bits_and_i64_nat (a b : Nat) (ha : a < 9223372036854775808) (hb : b < 9223372036854775808) : bits BinOp.and IntKind.i64 (a : Int) (b : Int) = ((a &&& b : Nat) : Int) := by
  have h1 : (BitVec.ofInt 64 (a : Int)).toNat = a := by rw [BitVec.ofInt_natCast, BitVec.toNat_ofNat]; exact Nat.mod_eq_of_lt (by omega)
  have h2 : (BitVec.ofInt 64 (b : Int)).toNat = b := by rw [BitVec.ofInt_natCast, BitVec.toNat_ofNat]; exact Nat.mod_eq_of_lt (by omega)
  show IntKind.i64.wrap ((BitVec.ofInt 64 (a : Int) &&& BitVec.ofInt 64 (b : Int)).toNat : Int) = _
  rw [BitVec.toNat_and, h1, h2, IntKind.wrap_i64]
  have : a &&& b ≤ a := Nat.and_le_left
  omega
theorem exp_i64 {y : Nat} (hy : W64 y) : bits BinOp.and IntKind.i64 (wrap64 ((y : Int) / 4503599627370496)) 2047 = ((rg y / B52 : Nat) : Int) := by
  have h := hy.lt
  have e : wrap64 ((y : Int) / 4503599627370496) = ((y / 4503599627370496 : Nat) : Int) := by unfold wrap64; omega
  have := bits_and_i64_nat (y / 4503599627370496) 2047 (by omega) (by decide)
  rw [e, show (2047 : Int) = ((2047 : Nat) : Int) from rfl, this, rg_eq]
  congr 1
  rw [show (2047 : Nat) = 2 ^ 11 - 1 from rfl, Nat.and_two_pow_sub_one_eq_mod]
  unfold B52
  omega
theorem normd_at64 {x y : Nat} {e : Int} (h : Normd x y e) : ∃ E : Nat, Hid (rg y / B52 = E) ∧ 1 ≤ E ∧ E ≤ 2046 ∧ bits BinOp.and IntKind.u64 ((y : Int) / 4503599627370496) 2047 = (E : Int) ∧ bits BinOp.and IntKind.i64 (wrap64 ((y : Int) / 4503599627370496)) 2047 = (E : Int) ∧ (FloatKind.f64.format.order y 0 == some .lt) = neg x :=
  ⟨rg y / B52, Lib.hid rfl, (Nat.one_le_div_iff B52_pos).2 h.lo, Nat.le_of_lt_succ h.E, exp_u64 h.w, exp_i64 h.w, by
    rw [t_lt h.w (w_const (by decide)), plc0, isn0, isn_eq, ← h.s, Bool.eq_iff_iff]
    have h1 := h.hi
    have h2 := h.lo
    unfold B52 at h2
    simp only [Bool.and_eq_true, Bool.not_eq_true', decide_eq_false_iff_not, decide_eq_true_eq, plc_lt_zero]
    constructor
    · intro h3; exact h3.2.1
    · intro h3; exact ⟨⟨by omega, by decide⟩, h3, by omega⟩⟩
theorem u64_keep {x E : Nat} (hx : W64 x) (hE : E < 2048) : bits BinOp.or IntKind.u64 (bits BinOp.andNot IntKind.u64 (↑x) 9218868437227405312) ((E * B52 : Nat) : Int) = ((wd (neg x) (E * B52 + rg x % B52) : Nat) : Int) := by
  have h := hx.lt
  have h1 := u64_andNot_nat x 9218868437227405312 h (by decide)
  rw [show ((9218868437227405312 : Nat) : Int) = 9218868437227405312 from rfl] at h1
  have h2 : x &&& (18446744073709551615 - 9218868437227405312) = (if 9223372036854775808 ≤ x then 9223372036854775808 else 0) ||| x % B52 := by
    rw [show (18446744073709551615 - 9218868437227405312 : Nat) = 2 ^ 63 ||| (2 ^ 52 - 1) from by decide, Nat.and_or_distrib_left, Nat.and_two_pow_sub_one_eq_mod]
    congr 1
    have h3 := u64_hi h
    have h4 := u64_and_nat x 9223372036854775808 h (by decide)
    rw [show ((9223372036854775808 : Nat) : Int) = 9223372036854775808 from rfl] at h4
    rw [h4] at h3
    exact Int.ofNat_inj.1 h3
  have ht : x % B52 < 2 ^ 52 := Nat.mod_lt _ B52_pos
  have hrt : rg x % B52 = x % B52 := by rw [rg_eq]; unfold B52; omega
  have hs : (if 9223372036854775808 ≤ x then 9223372036854775808 else 0) ||| x % B52 = (if 9223372036854775808 ≤ x then 9223372036854775808 else 0) + x % B52 := by
    split
    · exact (Nat.two_pow_add_eq_or_of_lt (i := 63) (by unfold B52 at *; omega) 1).symm
    · simp
  rw [h1, h2, u64_or_nat _ _ (by rw [hs]; split <;> unfold B52 at * <;> omega) (by unfold B52; omega)]
  congr 1
  have h5 : x % B52 ||| E * B52 = E * B52 + x % B52 := by
    rw [Nat.or_comm, show E * B52 = 2 ^ 52 * E from by unfold B52; omega]
    exact (Nat.two_pow_add_eq_or_of_lt ht E).symm
  rw [Nat.or_assoc, h5, wd_eq, neg_eq, hrt]
  by_cases hh : 9223372036854775808 ≤ x
  · simp only [hh, if_true, decide_true]
    exact (Nat.two_pow_add_eq_or_of_lt (i := 63) (by unfold B52 at *; omega) 1).symm
  · simp [hh]
def FrexpPost (x : Nat) (w : World) (e : Ending) (w' : World) : Prop := ∃ y k, e = .returned (.tuple #[.float .f64 (wd (neg x) (1022 * B52 + rg y % B52)), .int .i64 (k + (rg y / B52 : Nat) - 1022)]) ∧ Normd x y k ∧ Dr w w'
theorem frexp_c (x : Nat) (hx : W64 x) (h0 : 0 < rg x) (h1 : rg x < 9218868437227405312) (w : World) : Calls Tryd.prog 90 #[.float .f64 x] w (FrexpPost x w) := by
  have k0 : (FloatKind.f64.format.order x 0 == some .eq) = false := by
    rw [t_eq hx (w_const (by decide)), plc0]
    have : ¬ plc x = 0 := by rw [plc_zero]; omega
    simp [this]
  have k1 : infS x 0 = false := by
    have : ¬ rg x = 9218868437227405312 := by omega
    simp [infS, this]
  have k2 : isn x = false := by rw [isn_eq]; simp; omega
  go_enter Tryd.func90, Tryd.ntmps90
  go_wp2_with (first | (go_at_call 88; refine (isInf_c _ _ hx _).mono ?_; rintro e w' ⟨rfl, rfl⟩) | (go_at_call 102; refine (isNaN_c _ hx _).mono ?_; rintro e w' ⟨rfl, rfl⟩) | (go_at_call 103; refine (normalize_c _ hx h0 h1 _).mono ?_; rintro e w' ⟨y, k, rfl, hn, ⟨⟨nq, rfl⟩⟩⟩; have hk1 := hn.k1; have hk2 := hn.k2; obtain ⟨E, HE, he1, he2, hy, hy', hy2⟩ := normd_at64 hn))
  go_ret2
  refine ⟨y, k, ret_float_int ?_ ?_, hn, Dr.n _ _⟩
  · have := u64_keep hn.w (E := 1022) (by decide)
    rw [show ((1022 * B52 : Nat) : Int) = 4602678819172646912 from by decide] at this
    rw [this, hn.s]; rfl
  · rw [HE.out]; omega
theorem frexp_cc (x : Nat) (hx : W64 x) (h0 : 0 < rg x) (h1 : rg x < 9218868437227405312) (w : World) : Calls Tryd.prog 72 #[.float .f64 x] w (FrexpPost x w) := by
  go_enter Tryd.func72, Tryd.ntmps72
  go_wp2_with (first | (go_at_call 90; refine (frexp_c _ hx h0 h1 _).mono ?_; rintro e w' ⟨y, k, rfl, hn, ⟨⟨nq, rfl⟩⟩⟩))
  go_ret2
  exact ⟨y, k, rfl, hn, Dr.n _ _⟩
theorem csgn0 (y : Nat) : csgn 0 y = wd (neg y) 0 := by unfold csgn; rw [show rg 0 = 0 from by decide]
theorem ld_bits {y : Nat} (hy : W64 y) (X : Int) (h0 : 0 ≤ X) (h1 : X < 2048) : (bits BinOp.or IntKind.u64 (bits BinOp.andNot IntKind.u64 (↑y) 9218868437227405312) (X * 4503599627370496)).toNat = wd (neg y) (X.toNat * B52 + rg y % B52) := by
  have := u64_keep hy (E := X.toNat) (by omega)
  have e : ((X.toNat * B52 : Nat) : Int) = X * 4503599627370496 := by unfold B52; omega
  rw [e] at this
  rw [this]; rfl
def LdexpPost (x : Nat) (k : Int) (w : World) (e : Ending) (w' : World) : Prop := ∃ z, e = .returned (.float .f64 z) ∧ IsLd x k z ∧ Dr w w'
theorem ldexp_c (x : Nat) (k : Int) (hx : W64 x) (h0 : 0 < rg x) (h1 : rg x < 9218868437227405312) (hk1 : -100000 ≤ k) (hk2 : k ≤ 100000) (w : World) : Calls Tryd.prog 92 #[.float .f64 x, .int .i64 k] w (LdexpPost x k w) := by
  have k0 : (FloatKind.f64.format.order x 0 == some .eq) = false := by
    rw [t_eq hx (w_const (by decide)), plc0]
    have : ¬ plc x = 0 := by rw [plc_zero]; omega
    simp [this]
  have k1 : infS x 0 = false := by
    have : ¬ rg x = 9218868437227405312 := by omega
    simp [infS, this]
  have k2 : isn x = false := by rw [isn_eq]; simp; omega
  go_enter Tryd.func92, Tryd.ntmps92
  go_wp2_with (first | (go_at_call 88; refine (isInf_c _ _ hx _).mono ?_; rintro e w' ⟨rfl, rfl⟩) | (go_at_call 102; refine (isNaN_c _ hx _).mono ?_; rintro e w' ⟨rfl, rfl⟩) | (go_at_call 103; refine (normalize_c _ hx h0 h1 _).mono ?_; rintro e w' ⟨y, e1, rfl, hn, ⟨⟨nq, rfl⟩⟩⟩; have hq1 := hn.k1; have hq2 := hn.k2; obtain ⟨E, HE, he1, he2, hy, hy', hy2⟩ := normd_at64 hn) | (go_at_call 104; refine (copysign_c _ _ (w_const (by decide)) hn.w _).mono ?_; rintro e w' ⟨rfl, rfl⟩) | (go_at_call 105; refine (inf_c _ _).mono ?_; rintro e w' ⟨rfl, rfl⟩) | (refine wp_arith .f64 _ _ rfl rfl rfl ?_; intro r n hr))
  all_goals go_ret
  · exact ⟨_, rfl, by rw [csgn0, hn.s]; exact isLd_under hn (e := k) (k + e1 + ((E : Int) - 1023)) (by rw [HE.out]; omega) (by assumption), Dr.n _ _⟩
  · refine ⟨_, rfl, ?_, Dr.n _ _⟩
    have h := isLd_over hn (e := k) (k + e1 + ((E : Int) - 1023)) (by rw [HE.out]; omega) (by assumption)
    rw [‹neg x = true›] at h
    exact h
  · refine ⟨_, rfl, ?_, Dr.n _ _⟩
    have h := isLd_over hn (e := k) (k + e1 + ((E : Int) - 1023)) (by rw [HE.out]; omega) (by assumption)
    rw [‹neg x = false›] at h
    exact h
  · obtain ⟨z, hz, hl⟩ := isLd_sub hn (e := k) (k + e1 + ((E : Int) - 1023)) (by rw [HE.out]; omega) (by assumption) (by assumption)
    rw [← hn.s, ← ld_bits hn.w _ (by omega) (by omega)] at hz
    obtain rfl := fr_some hr hz
    exact ⟨_, rfl, hl, Dr.n _ _⟩
  · have hl := isLd_norm hn (e := k) (k + e1 + ((E : Int) - 1023)) (by rw [HE.out]; omega) (by assumption) (by assumption)
    have hR : (k + e1 + ((E : Int) - 1023) + 1023).toNat * B52 + rg y % B52 < 9218868437227405312 := by
      have := Nat.mod_lt (rg y) B52_pos
      unfold B52 at *
      omega
    have hz := mul_one64 (wd_w (s := neg y) (r := (k + e1 + ((E : Int) - 1023) + 1023).toNat * B52 + rg y % B52) (by omega)) (by rw [wd_rg (by omega)]; exact hR)
    rw [← ld_bits hn.w _ (by omega) (by omega)] at hz
    obtain rfl := fr_some hr hz
    rw [ld_bits hn.w _ (by omega) (by omega), hn.s]
    exact ⟨_, rfl, hl, Dr.n _ _⟩
theorem ldexp_cc (x : Nat) (k : Int) (hx : W64 x) (h0 : 0 < rg x) (h1 : rg x < 9218868437227405312) (hk1 : -100000 ≤ k) (hk2 : k ≤ 100000) (w : World) : Calls Tryd.prog 73 #[.float .f64 x, .int .i64 k] w (LdexpPost x k w) := by
  go_enter Tryd.func73, Tryd.ntmps73
  go_wp2_with (first | (go_at_call 92; refine (ldexp_c _ _ hx h0 h1 hk1 hk2 _).mono ?_; rintro e w' ⟨z, rfl, hl, ⟨⟨nq, rfl⟩⟩⟩))
  go_ret
  exact ⟨z, rfl, hl, Dr.n _ _⟩
end Go.Proofs.YtaedkekjekbjmaaDoor

/- What Split, Join and Ulp answer. -/
namespace Go.Proofs.YtaedkekjekbjmaaDoor
open Go Go.RowKit GFl
set_option maxRecDepth 100000
attribute [local go_sem] run_f64bits run_f64frombits run_neg_f64
/-- The table of math/bits lies as its text has it. -/
def Tab (w : World) : Prop := TabAt 1 Lib.deBruijn64tab w
theorem Tab.below {w w1 : World} (h : Tab w) (hb : Below w.heap.size w w1) : Tab w1 := fun j hj => by
  have hc := h j hj
  exact (hb.cell (World.block_lt_of_cell? w _ hc)).trans hc
theorem tz64_z (w : World) : Calls Tryd.prog 74 #[.int .u64 0] w fun e w' => e = .returned (.int .i64 64) ∧ w' = w := by
  go_enter Tryd.func74, Tryd.ntmps74
  go_wp2
  go_ret
  exact ⟨rfl, rfl⟩
theorem tz64_core (x k idx : Nat) (w : World) (hx0 : ((x : Int) == 0) = false)
    (key : IntKind.u64.wrap (bits BinOp.and IntKind.u64 (x : Int) (IntKind.u64.wrap (-(x : Int))) * 285870213051353865) / 288230376151711744 = (idx : Int))
    (hi : idx < 64) (hk : k < 64) (hcell : w.cell? ⟨1, idx, none⟩ = some (.int .u8 k)) :
    Calls Tryd.prog 74 #[.int .u64 x] w fun e w' => e = .returned (.int .i64 k) ∧ w' = w := by
  go_enter Tryd.func74, Tryd.ntmps74
  go_wp2_with (simp only [key])
  go_ret
  exact ⟨rfl, rfl⟩
theorem tz64_c (x : Nat) (hx : x < 18446744073709551616) (w : World) (hT : Tab w) :
    Calls Tryd.prog 74 #[.int .u64 x] w fun e w' => e = .returned (.int .i64 (Lib.ctz 64 x)) ∧ w' = w := by
  by_cases hx0 : x = 0
  · subst hx0
    exact tz64_z w
  · obtain ⟨hlow, hk⟩ := Lib.lowest_bit 64 x hx0 hx
    obtain ⟨hi, htab⟩ := Lib.deBruijn64_at _ hk
    have hcell := hT _ hi
    rw [htab] at hcell
    exact tz64_core x _ _ w (by simp; omega) (tz64_key x _ hx hx0 hlow) hi hk hcell

theorem f2u {z m : Nat} (hz : W64 z) (hf : rg z < 9218868437227405312) (hn : neg z = false) (hm : mg B52 (rg z) = m * p2 1074) (hm1 : m < 18446744073709551616) : floatToIntVal .f64 z .u64 = some (m : Int) := by
  have h := toInt_whole hz hf hn hm
  have h' : (FloatKind.f64.decode z).toInt .zero = some (m : Int) := h
  unfold floatToIntVal
  rw [h']
  have a1 : IntKind.u64.min = 0 := by decide
  have a2 : IntKind.u64.max = 18446744073709551615 := by decide
  simp only [a1, a2]
  rw [if_pos (by omega)]

def SplitPost (x : Nat) (w : World) (e : Ending) (w' : World) : Prop := ∃ fr ex, e = .returned (.tuple #[.agg #[.bool (neg x), .int .u64 (fr : Nat), .int .i64 ex], .bool true]) ∧ IsSplit x fr ex ∧ fr < 9007199254740992 ∧ ex ≤ 1023 ∧ Below w.heap.size w w'
set_option maxHeartbeats 2000000 in
theorem split_yes (x : Nat) (hx : W64 x) (h0 : 0 < rg x) (h1 : rg x < 9218868437227405312) (w : World) (hT : Tab w) : Calls Tryd.prog 55 #[.float .f64 x] w (SplitPost x w) := by
  have hk : ¬ 2 < kindF x := by unfold kindF; (repeat' split) <;> omega
  have k0 : (FloatKind.f64.format.order x 0 == some .eq) = false := by
    rw [t_eq hx (w_const (by decide)), plc0]
    have : ¬ plc x = 0 := by rw [plc_zero]; omega
    simp [this]
  go_enter Tryd.func55, Tryd.ntmps55
  go_wp2_with (first | (go_at_call 70; refine (kind_c _ hx _).mono ?_; rintro e w' ⟨rfl, rfl⟩) | (go_at_call 71; refine (signbit_c _ hx _).mono ?_; rintro e w' ⟨rfl, rfl⟩) | (go_at_call 21; refine (abs_c _ hx _).mono ?_; rintro e w' ⟨rfl, rfl⟩))
  refine (frexp_cc _ (fabs_w x) (by rw [fabs_rg]; exact h0) (by rw [fabs_rg]; exact h1) _).mono ?_
  rintro e w1 ⟨y, k, rfl, hn, ⟨⟨nq, rfl⟩⟩⟩
  have hk1 := hn.k1
  have hk2 := hn.k2
  have he2 := hn.E
  obtain ⟨E, hE⟩ : ∃ E, rg y / B52 = E := ⟨_, rfl⟩
  rw [hE]
  rw [hE] at he2
  have HE := Lib.hid hE
  clear hE
  have ht : rg y % B52 < B52 := Nat.mod_lt _ B52_pos
  have hR : 1022 * B52 + rg y % B52 < 9218868437227405312 := by unfold B52 at *; omega
  have hR63 : 1022 * B52 + rg y % B52 < 9223372036854775808 := by omega
  rw [fabs_neg]
  go_wp2_with fail
  refine (ldexp_cc _ _ (wd_w hR63) (by rw [wd_rg hR63]; unfold B52; omega) (by rw [wd_rg hR63]; exact hR) (by omega) (by omega) _).mono ?_
  rintro e w1 ⟨z, rfl, hl, ⟨⟨nq2, rfl⟩⟩⟩
  obtain ⟨z1, z2, z3, z4⟩ := split_m ht hl
  obtain ⟨m, hm⟩ : ∃ m, B52 + rg y % B52 = m := ⟨_, rfl⟩
  rw [hm] at z4
  have hm1 : m < 9007199254740992 := by unfold B52 at *; omega
  have hm0 : 0 < m := by unfold B52 at *; omega
  have hcv : ∀ w, (convert 25 62 (.float .f64 z)).run Tryd.prog w = .ok (.int .u64 (m : Nat)) w := fun w => run_convert_float_int w _ _ .f64 .u64 z m rfl rfl (f2u z1 z2 z3 z4 (by omega))
  obtain ⟨j, hj, hn63⟩ := Lib.ctzFrom_spec 64 m hm0 (by omega)
  have hct : Lib.ctz 64 m = Lib.ctzFrom 64 m := by unfold Lib.ctz; rw [if_neg (by omega)]
  rw [← hct] at hj hn63
  have Z := Lib.hid (And.intro z1 (And.intro z2 (And.intro z3 z4)))
  have HM := Lib.hid hm
  have HJ := Lib.hid hj
  clear z1 z2 z3 z4 hm hj hct ht hR hR63
  go_wp2_with fail
  refine (tz64_c m (by omega) _ ?_).mono ?_
  · exact hT.below (by repeat' (first | (with_reducible exact Below.refl _ _) | (with_reducible refine bl_alloc ?_ _) | (with_reducible refine bl_drewN ?_ _) | (with_reducible refine bl_drew ?_) | (with_reducible refine bl_set ?_ _ (by simp))))
  rintro e w1 ⟨rfl, rfl⟩
  go_wp2
  have hok := split_ok (n := Lib.ctz 64 m) (j := j) hn (by rw [p2_def]; exact HM.out.trans HJ.out)
  have hc53 : Lib.ctz 64 m < 53 := by
    rcases Nat.lt_or_ge (Lib.ctz 64 m) 53 with h | h
    · exact h
    · have h2 : 2 ^ 53 ≤ 2 ^ Lib.ctz 64 m := Nat.pow_le_pow_right (by decide) h
      have h3 := HJ.out
      have h4 : 2 ^ Lib.ctz 64 m ≤ 2 ^ Lib.ctz 64 m * (2 * j + 1) := Nat.le_mul_of_pos_right _ (by omega)
      omega
  rw [HE.out] at hok
  have hdiv : (m : Int) / 2 ^ Lib.ctz 64 m = ((2 * j + 1 : Nat) : Int) := by
    have h1 : m / 2 ^ Lib.ctz 64 m = 2 * j + 1 := by
      have := HJ.out
      conv => lhs; lhs; rw [this]
      exact Nat.mul_div_cancel_left _ (Nat.two_pow_pos _)
    rw [← h1]; simp
  have hlt : 2 * j + 1 < 9007199254740992 := by
    have h1 : m / 2 ^ Lib.ctz 64 m ≤ m := Nat.div_le_self _ _
    have h2 : m / 2 ^ Lib.ctz 64 m = 2 * j + 1 := by
      have := HJ.out
      conv => lhs; lhs; rw [this]
      exact Nat.mul_div_cancel_left _ (Nat.two_pow_pos _)
    omega
  refine bodyPost_ret (v := .tuple #[.agg #[.bool (neg x), .int .u64 ((m : Int) / 2 ^ Lib.ctz 64 m), .int .i64 (k + (E : Int) - 1022 - 53 + (Lib.ctz 64 m : Nat))], .bool true]) (by simp [results, Tryd.results55, go_sem]) rfl ?_
  rw [hdiv]
  refine ⟨2 * j + 1, k + (E : Int) - 1022 - 53 + (Lib.ctz 64 m : Nat), rfl, ?_, hlt, by omega, ?_⟩
  · exact ⟨hok.odd, hok.lo, by rw [hok.eq, fabs_rg]⟩
  · repeat' (first | (with_reducible exact Below.refl _ _) | (with_reducible refine bl_alloc ?_ _) | (with_reducible refine bl_drewN ?_ _) | (with_reducible refine bl_drew ?_) | (with_reducible refine bl_set ?_ _ (by simp)))
theorem split_z (x : Nat) (hx : W64 x) (h0 : rg x = 0) (w : World) : Calls Tryd.prog 55 #[.float .f64 x] w fun e w' => e = .returned (.tuple #[.agg #[.bool (neg x), .int .u64 0, .int .i64 0], .bool true]) ∧ Below w.heap.size w w' := by
  have hk : ¬ 2 < kindF x := by unfold kindF; (repeat' split) <;> omega
  have k0 : (FloatKind.f64.format.order x 0 == some .eq) = true := by
    rw [t_eq hx (w_const (by decide)), plc0, isn0, isn_eq]
    have : plc x = 0 := by rw [plc_zero]; exact h0
    simp [this, h0]
  go_enter Tryd.func55, Tryd.ntmps55
  go_wp2_with (first | (go_at_call 70; refine (kind_c _ hx _).mono ?_; rintro e w' ⟨rfl, rfl⟩) | (go_at_call 71; refine (signbit_c _ hx _).mono ?_; rintro e w' ⟨rfl, rfl⟩))
  refine bodyPost_ret (v := .tuple #[.agg #[.bool (neg x), .int .u64 0, .int .i64 0], .bool true]) (by simp [results, Tryd.results55, go_sem]) rfl ⟨rfl, ?_⟩
  repeat' (first | (with_reducible exact Below.refl _ _) | (with_reducible refine bl_alloc ?_ _) | (with_reducible refine bl_drewN ?_ _) | (with_reducible refine bl_drew ?_) | (with_reducible refine bl_set ?_ _ (by simp)))
end Go.Proofs.YtaedkekjekbjmaaDoor
