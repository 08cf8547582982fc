import Derived.Test.YtaedkekjekbjmaaGreatDoorFj
import Derived.Test.YtaedkekjekbjmaaGreatDoorFq
import Derived.Deep.QuietTactic
import Derived.BigQuiet
import Derived.OwnWalk
import Derived.ProofKit
import Derived.Lib.LaidTab
import Derived.SevenTiedAt
import Derived.JoinedOf
import Derived.ChangeSame
import Derived.ChangeVars
import Derived.Test.YtaedkekjekbjmaaGreatDoorFo
import Derived.Deep.Slices
import Derived.Deep.Fields
import Derived.Carry
import Derived.SizedLaws
/- girderkit: lists of floats lent, kept, written over; held against one another. -/
namespace Go.Proofs.YtaedkekjekbjmaaGreatDoor
open Go Go.RowKit Nv GFl Ieee
open Go.Proofs.YtaedkekjekbjmaaGreatDoorW.PrintWords (own_move own_ne own_lt Kd)
set_option maxRecDepth 100000
set_option linter.unusedSimpArgs false
attribute [local go_sem] run_f64bits run_f64frombits run_neg_f64 run_store_float
theorem two_blk' (w : World) (o o' : Obj) : ((w.alloc o).alloc o').heap[w.heap.size]? = some o ∧ ((w.alloc o).alloc o').heap[w.heap.size + 1]? = some o' := by
  refine ⟨kb_alloc (kb_new (Below.refl _ _)), ?_⟩
  have := kb_new (w := w.alloc o) (o := o') (Below.refl _ _)
  simpa using this
theorem sameF_self (x : Nat) : sameF x x = true := (sameF_eq rfl).symm
theorem same_reals_c (A B : Option Addr) (cA cB : Nat) (l : List Nat) (W : World) (h1 : Fl W A l) (h2 : Fl W B l) (wl : ∀ x ∈ l, W64 x) :
    Calls Tryz.prog 46 #[.slice A l.length cA, .slice B l.length cB] W fun e w' => e = .returned (.bool true) ∧ ∃ m, w' = W.drewN m := by
  have H1 := Lib.hid h1
  have H2 := Lib.hid h2
  have WL := Lib.hid wl
  have hm := h1.2.1
  clear h1 h2 wl
  have k0 : ((l.length : Int) != (l.length : Int)) = false := by simp
  go_enter Tryz.func46, Tryz.ntmps46
  go_wp2
  go_loopw [5] (fun v5 wr => ∃ i : Nat, v5 = .int .i64 i ∧ i ≤ l.length ∧ Hid (∃ m, wr = W.drewN m)) (fun v _ => l.length - (intOf v).toNat)
  case atStart => exact ⟨0, rfl, Nat.zero_le _, Lib.hid ⟨0, rfl⟩⟩
  case round =>
    obtain ⟨i, rfl, hi, hq⟩ := hrel
    by_cases hlt : i < l.length
    · have l1 : decide (i < l.length) = true := decide_eq_true hlt
      obtain ⟨ad, hA, d0⟩ := H1.out.at hlt
      obtain ⟨bd, hB, d1⟩ := H2.out.at hlt
      subst hA
      subst hB
      have d0' : wr.cell? (ad.add i) = some (.float .f64 l[i]) := by obtain ⟨m, e⟩ := hq.out; rw [e]; exact d0
      have d1' : wr.cell? (bd.add i) = some (.float .f64 l[i]) := by obtain ⟨m, e⟩ := hq.out; rw [e]; exact d1
      have wy := WL.out _ (List.getElem_mem hlt)
      obtain ⟨y, hy⟩ : ∃ y, l[i] = y := ⟨_, rfl⟩
      rw [hy] at d0' d1' wy
      have SF : Hid (∀ w, Calls Tryz.prog 10 #[.float .f64 y, .float .f64 y] w fun e w' => e = .returned (.bool true) ∧ w' = w) := Lib.hid (fun w => by have := sameFloat_c y y wy wy w; rw [sameF_self] at this; exact this)
      have j0 : (0 : Int) ≤ (i : Int) := by omega
      have j1 : (i : Int) < (l.length : Int) := by omega
      have j2 : IntKind.i64.wrap ((i : Int) + 1) = (i : Int) + 1 := by rw [IntKind.wrap_i64]; omega
      have HI : Hid (i + 1 ≤ l.length) := Lib.hid (by omega)
      clear d0 d1 hy hlt wy
      go_wp2
      go_quiet ((go_at_call 10; refine Calls.quiet_of_same (SF.out _)))
      go_wp2
      go_roundw
      case rel => exact ⟨i + 1, by go_num, HI.out, Lib.hid (by obtain ⟨m, e⟩ := hq.out; exact ⟨m + nq, by rw [e, World.drewN_drewN]⟩)⟩
      case measure => have := HI.out; simp [intOf]; omega
    · have l1 : decide (i < l.length) = false := decide_eq_false hlt
      clear hlt
      go_wp2
      go_ret
      exact ⟨rfl, hq.out⟩
theorem same_chain_c (A B A' B' : Option Addr) (cA cB cA' cB' : Nat) (l m : List Nat) (W : World) (h1 : Fl W A l) (h2 : Fl W A' l) (h3 : Fl W B m) (h4 : Fl W B' m) (wl : ∀ x ∈ l, W64 x) (wm : ∀ x ∈ m, W64 x) :
    Calls Tryz.prog 28 #[.agg #[.slice A l.length cA, .slice B m.length cB], .agg #[.slice A' l.length cA', .slice B' m.length cB']] W fun e w' => e = .returned (.bool true) ∧ Below W.heap.size W w' := by
  have s1 : ∀ w, Below W.heap.size W w → Calls Tryz.prog 46 #[.slice A l.length cA, .slice A' l.length cA'] w fun e w' => e = .returned (.bool true) ∧ ∃ m, w' = w.drewN m := fun w h => same_reals_c A A' cA cA' l w (h1.below h) (h2.below h) wl
  have s2 : ∀ w, Below W.heap.size W w → Calls Tryz.prog 46 #[.slice B m.length cB, .slice B' m.length cB'] w fun e w' => e = .returned (.bool true) ∧ ∃ m, w' = w.drewN m := fun w h => same_reals_c B B' cB cB' m w (h3.below h) (h4.below h) wm
  have S1 := Lib.hid s1
  have S2 := Lib.hid s2
  clear s1 s2 h1 h2 h3 h4 wl wm
  go_enter Tryz.func28, Tryz.ntmps28
  have B0 : Hid (Below W.heap.size W ((W.alloc (.cells #[.slice A l.length cA, .slice B m.length cB] 24)).alloc (.cells #[.slice A' l.length cA', .slice B' m.length cB'] 24))) := Lib.hid (by repeat' (first | (with_reducible exact Below.refl _ _) | (with_reducible refine bl_alloc ?_ _) | (with_reducible refine bl_drewN ?_ _) | (with_reducible refine bl_drew ?_) | (with_reducible refine bl_set ?_ _ (by simp))))
  obtain ⟨k0, k1⟩ := two_blk' W (.cells #[.slice A l.length cA, .slice B m.length cB] 24) (.cells #[.slice A' l.length cA', .slice B' m.length cB'] 24)
  have c0 := kb_cell k0 (i := 0) rfl
  have c1 := kb_cell k0 (i := 1) rfl
  have c2 := kb_cell k1 (i := 0) rfl
  have c3 := kb_cell k1 (i := 1) rfl
  go_wp2_with (first
    | (go_at_call 46; (with_reducible (first | refine (S1.out _ B0.out).mono ?_ | refine (S2.out _ B0.out).mono ?_)); rintro e w7 ⟨rfl, m, rfl⟩; have B0 := Lib.hid (bl_drewN B0.out m); have c0 := kb_cell k0 (i := 0) rfl))
  go_ret
  exact ⟨rfl, by repeat' (first | (with_reducible exact Below.refl _ _) | (with_reducible refine bl_alloc ?_ _) | (with_reducible refine bl_drewN ?_ _) | (with_reducible refine bl_drew ?_) | (with_reducible refine bl_set ?_ _ (by simp)))⟩
end Go.Proofs.YtaedkekjekbjmaaGreatDoor

/- girderkit: lists of floats lent with marks behind their ends, kept, written over. -/
namespace Go.Proofs.YtaedkekjekbjmaaGreatDoor
open Go Go.RowKit Nv GFl Ieee
open Go.Proofs.YtaedkekjekbjmaaGreatDoorW.PrintWords (own_move own_ne own_lt Kd)
set_option maxRecDepth 100000
set_option linter.unusedSimpArgs false
attribute [local go_sem] run_f64bits run_f64frombits run_neg_f64 run_store_float
theorem add_blk (b k : Nat) : (⟨b, 0, none⟩ : Addr).add k = ⟨b, k, none⟩ := by
  unfold Addr.add; split <;> simp_all
def mkI (k i : Int) : Int := 1000003 * (k + 7) + i
theorem mark_c (k i : Int) (h1 : 0 ≤ k) (h2 : k ≤ 9) (h3 : 0 ≤ i) (h4 : i ≤ 1000000000000000) (w : World) : Calls Tryz.prog 35 #[.int .i64 k, .int .i64 i] w fun e w' => e = .returned (.int .i64 (mkI k i)) ∧ w' = w := by
  have e1 : IntKind.i64.wrap (k + 7) = k + 7 := by rw [IntKind.wrap_i64]; omega
  have e2 : IntKind.i64.wrap (1000003 * (k + 7)) = 1000003 * (k + 7) := by rw [IntKind.wrap_i64]; omega
  have e3 : IntKind.i64.wrap (1000003 * (k + 7) + i) = mkI k i := by unfold mkI; rw [IntKind.wrap_i64]; omega
  go_enter Tryz.func35, Tryz.ntmps35
  go_wp2
  go_ret
  exact ⟨rfl, rfl⟩
/-- The marks as floats. -/
def mkF (i : Nat) : Nat := floatOfInt .f64 (mkI 1 i)
def mks (n : Nat) : List Nat := (List.range n).map mkF
theorem mks_succ (n : Nat) : mks (n + 1) = mks n ++ [mkF n] := by unfold mks; rw [List.range_succ, List.map_append]; rfl
theorem mks_len (n : Nat) : (mks n).length = n := by unfold mks; simp
theorem mks_get (n i : Nat) (h : i < (mks n).length) : (mks n)[i] = mkF i := by simp [mks]
theorem mkF_ok (i : Nat) (h : i ≤ 1000) : W64 (mkF i) ∧ isn (mkF i) = false := by
  obtain ⟨x, hx, hw, _, _, h4, _⟩ := int_float (n := 8000024 + i) (by omega) (by omega)
  have e : mkF i = x := by
    unfold mkF mkI
    rw [← hx]; congr 1
  rw [e]
  exact ⟨hw, by rw [isn_eq]; simp; omega⟩
theorem fl_cells {w : World} {ad : Addr} {l : List Nat} (h : Fl w (some ad) l) (m : Nat) (u : Value) (hu : (l.map (Value.float .f64))[m]? = some u) : w.cell? (ad.add m) = some u := by
  rw [List.getElem?_map] at hu
  obtain ⟨y, hy, rfl⟩ := Option.map_eq_some_iff.1 hu
  have hm := (List.getElem?_eq_some_iff.1 hy).1
  obtain ⟨ad', e, hc⟩ := h.at hm
  injection e with e
  subst e
  rw [hc]
  have := (List.getElem?_eq_some_iff.1 hy).2
  rw [this]
/-- A list lent: its block holds the list and twelve marks behind it. -/
def Lent (w : World) (B g : Nat) (l : List Nat) : Prop := Ow w B (.slice (some ⟨g, 0, none⟩) (l.length + 12) (l.length + 12)) (l ++ mks 12)
theorem Lent.ow {w : World} {B g : Nat} {l : List Nat} (h : Lent w B g l) : Fl w (some ⟨g, 0, none⟩) (l ++ mks 12) := by
  obtain ⟨A', c', e, _, f⟩ := ow_sl h
  have : some (⟨g, 0, none⟩ : Addr) = A' := by injection e
  rw [this]; exact f
theorem Lent.fl {w : World} {B g : Nat} {l : List Nat} (h : Lent w B g l) : Fl w (some ⟨g, 0, none⟩) l := by
  have := h.ow.take_ l.length
  simpa using this
theorem ow_len {w : World} {B n c : Nat} {A : Option Addr} {l : List Nat} (h : w.ownsRow B 28 1 (.slice A n c) n (l.map (Value.float .f64))) (hl : l.length = n) : Ow w B (.slice A n c) l := by unfold Ow; rw [hl]; exact h
set_option maxHeartbeats 4000000 in
theorem lent_reals_c {W : World} (A : Option Addr) (c : Nat) (l : List Nat) (hC : Fl W A l) (hA : A = none → c = 0 ∧ l = []) (hB : l.length * 8 ≤ 140737488351232) :
    Calls Tryz.prog 16 #[.slice A l.length c] W fun e w' => ∃ g, e = .returned (.slice (some ⟨g, 0, none⟩) l.length (l.length + 12)) ∧ W.heap.size ≤ g ∧ Lent w' W.heap.size g l ∧ Below W.heap.size W w' := by
  obtain ⟨i0, hi, hz0, hz1, hz2⟩ := info_parts f_info
  have HC := Lib.hid hC
  have HA := Lib.hid hA
  have hcut := cut_top (P := Tryz.prog) 22 28 .i64 Tryz.underlying22 hi (some ⟨W.heap.size, 0, none⟩) (l.length + 12) (l.length + 12) (l.length : Int) (by omega) (by omega)
  rw [Int.toNat_natCast] at hcut
  have hw : IntKind.i64.wrap ((l.length : Int) + 12) = ((l.length + 12 : Nat) : Int) := by rw [IntKind.wrap_i64]; omega
  clear hC hA
  go_enter Tryz.func16, Tryz.ntmps16
  go_wp2_with (first
    | (at_make; go_loud (refine wpList_make_own _ rfl _ _ 22 rfl W.heap.size 28 i0 _ 1 Tryz.underlying22 hi hz0 hz1 .i64 .i64 _ (l.length + 12) rfl rfl (by first | exact hw | omega) (by rw [hz2]; omega) (by unfold maxLen; omega) (Nat.le_refl _) ?_); intro w0 hown0 hgrow0
       have B0 := Lib.hid ((Below.refl W.heap.size W).grown hgrow0 (Nat.le_refl _) (fun k h => by cases h)))
    | (at_builtin; refine wpList_append_fits_any _ rfl _ _ 22 rfl W.heap.size 28 i0 1 Tryz.underlying22 hi hz1 W.heap.size 0 (l.length + 12) [] rfl hown0 A l.length c (l.map (Value.float .f64)) rfl (by simp) (fun h => ⟨by rw [(HA.out h).2]; rfl, (HA.out h).1⟩) (fun ad e m u hu => fl_cells (w := w0) (by subst e; exact HC.out.below B0.out) m u hu) (fun u hu => by obtain ⟨y, _, rfl⟩ := List.mem_map.1 hu; rfl) (by omega) ?_; intro w1 hown1 hgrow1
       replace B0 := Lib.hid (B0.out.grown hgrow1 (by have := B0.out.size; omega) (fun k h => by cases h; exact Nat.le_refl _))
       rw [Nat.zero_add, List.nil_append] at hown1
       rw [Nat.zero_add]
       clear hown0 hgrow0 hgrow1))
  have B1 := Lib.hid B0.out
  clear B0
  go_loopw [3, 4] (fun s v wr => ∃ k : Nat, k ≤ 12 ∧ v = .int .i64 k ∧ s = .slice (some ⟨W.heap.size, 0, none⟩) (l.length + k) (l.length + 12) ∧ wr.ownsRow W.heap.size 28 1 (.slice (some ⟨W.heap.size, 0, none⟩) (l.length + k) (l.length + 12)) (l.length + k) ((l ++ mks k).map (Value.float .f64)) ∧ Below W.heap.size W wr) (fun _ v _ => 12 - (intOf v).toNat)
  case atStart => exact ⟨0, by omega, rfl, rfl, by simpa [mks] using hown1, B1.out⟩
  case round =>
    obtain ⟨k, hk, rfl, rfl, hown, hb⟩ := hrel
    have HB := Lib.hid hb
    have hgs : W.heap.size < wr.heap.size := (hown.lt W.heap.size rfl).2
    clear hb hown1 B1
    have mj : ∀ w, k ≤ 12 → Calls Tryz.prog 35 #[.int .i64 1, .int .i64 k] w fun e w' => e = .returned (.int .i64 (mkI 1 k)) ∧ w' = w := fun w h => mark_c 1 k (by omega) (by omega) (by omega) (by omega) w
    go_wp2_with (first
      | (go_at_call 35; refine (mj _ hk).mono ?_; rintro e w2 ⟨rfl, rfl⟩)
      | (at_builtin; refine wpList_append_fits _ rfl _ _ 22 rfl W.heap.size 28 i0 1 Tryz.underlying22 hi hz1 W.heap.size (l.length + k) (l.length + 12) ((l ++ mks k).map (Value.float .f64)) rfl (hown.alloc _) ⟨w2.heap.size, 0, none⟩ 1 1 [.float .f64 (mkF k)] rfl rfl (fun m u hu => by rw [add_blk]; exact kb_cell (c := #[.float .f64 (mkF k)]) Array.getElem?_push_size (by simpa using hu)) (by simp [Value.oneCell']) (by omega) ?_; intro w3 hown3 hgrow3
         replace HB := Lib.hid ((bl_alloc HB.out _).grown hgrow3 (by have := HB.out.size; simp; omega) (fun b h => by cases h; exact Nat.le_refl _))
         clear hown hgrow3))
    · go_roundw
      case rel => exact ⟨k + 1, by omega, by go_num, by rw [Nat.add_assoc], by rw [mks_succ, ← List.append_assoc, List.map_append, ← Nat.add_assoc]; simpa using hown3, HB.out⟩
      case measure => simp [intOf]; omega
    · obtain rfl : k = 12 := by omega
      go_ret
      exact ⟨W.heap.size, rfl, Nat.le_refl _, ow_len hown (by simp [mks_len]), HB.out⟩
end Go.Proofs.YtaedkekjekbjmaaGreatDoor

/- girderkit.KeptReals on a lent list; OverReals. -/
namespace Go.Proofs.YtaedkekjekbjmaaGreatDoor
open Go Go.RowKit Nv GFl Ieee
set_option maxRecDepth 100000
set_option linter.unusedSimpArgs false
attribute [local go_sem] run_f64bits run_f64frombits run_neg_f64 run_store_float
set_option maxHeartbeats 4000000 in
theorem kept_reals_c (g : Nat) (A : Option Addr) (c cA : Nat) (l : List Nat) (W : World) (hg : Fl W (some ⟨g, 0, none⟩) (l ++ mks 12)) (hA : Fl W A l) (hc : c = l.length + 12) (wl : ∀ x ∈ l, W64 x) (hB : l.length * 8 ≤ 140737488351232) :
    Calls Tryz.prog 29 #[.slice (some ⟨g, 0, none⟩) l.length c, .slice A l.length cA] W fun e w' => e = .returned (.bool true) ∧ ∃ m, w' = W.drewN m := by
  subst hc
  have HG := Lib.hid hg
  have HA := Lib.hid hA
  have WL := Lib.hid wl
  have k0 : ((l.length : Int) != (l.length : Int)) = false := by simp
  have hw : IntKind.i64.wrap ((l.length : Int) + 12) = ((l.length + 12 : Nat) : Int) := by rw [IntKind.wrap_i64]; omega
  obtain ⟨i0, hi, hs⟩ := f_info1
  have hcut := cut_top (P := Tryz.prog) 22 28 .i64 Tryz.underlying22 hi (some ⟨g, 0, none⟩) l.length (l.length + 12) ((l.length + 12 : Nat) : Int) (by omega) (by omega)
  rw [Int.toNat_natCast] at hcut
  clear hg hA wl hi hs
  go_enter Tryz.func29, Tryz.ntmps29
  go_wp2
  go_loopw [6] (fun v6 wr => ∃ i : Nat, v6 = .int .i64 i ∧ i ≤ l.length + 12 ∧ Hid (∃ m, wr = W.drewN m)) (fun v _ => l.length + 12 - (intOf v).toNat)
  case atStart => exact ⟨0, rfl, Nat.zero_le _, Lib.hid ⟨0, rfl⟩⟩
  case round =>
    obtain ⟨i, rfl, hi, hq⟩ := hrel
    clear hcut
    by_cases hlt : i < l.length + 12
    · have l1 : decide (i < l.length + 12) = true := decide_eq_true hlt
      have l1' : decide ((i : Int) < (l.length : Int) + 12) = true := decide_eq_true (by omega)
      have hlt2 : i < (l ++ mks 12).length := by rw [List.length_append, mks_len]; exact hlt
      obtain ⟨ad, hA, d0⟩ := HG.out.at hlt2
      injection hA with hA
      subst hA
      rw [add_blk] at d0
      have j0 : (0 : Int) ≤ (i : Int) := by omega
      have j1 : (i : Int) < ((l.length + 12 : Nat) : Int) := by omega
      have j1' : (i : Int) < (l.length : Int) + 12 := by omega
      have j2 : IntKind.i64.wrap ((i : Int) + 1) = (i : Int) + 1 := by rw [IntKind.wrap_i64]; omega
      have HI : Hid (i + 1 ≤ l.length + 12) := Lib.hid (by omega)
      by_cases hin : i < l.length
      · have l2 : decide (i < l.length) = true := decide_eq_true hin
        have l3 : decide (l.length ≤ i) = false := decide_eq_false (by omega)
        obtain ⟨bd, hB2, d1⟩ := HA.out.at hin
        subst hB2
        have wy := WL.out _ (List.getElem_mem hin)
        rw [List.getElem_append_left hin] at d0
        have d0' : wr.cell? ⟨g, i, none⟩ = some (.float .f64 l[i]) := by obtain ⟨m, e⟩ := hq.out; rw [e]; exact d0
        have d1' : wr.cell? (bd.add i) = some (.float .f64 l[i]) := by obtain ⟨m, e⟩ := hq.out; rw [e]; exact d1
        have j3 : (i : Int) < (l.length : Int) := by omega
        obtain ⟨y, hy⟩ : ∃ y, l[i] = y := ⟨_, rfl⟩
        rw [hy] at d0' d1' wy
        have SF : Hid (∀ w, Calls Tryz.prog 10 #[.float .f64 y, .float .f64 y] w fun e w' => e = .returned (.bool true) ∧ w' = w) := Lib.hid (fun w => by have := sameFloat_c y y wy wy w; rw [sameF_self] at this; exact this)
        clear d0 d1 hy hlt hlt2 wy hin
        go_wp2
        go_quiet ((go_at_call 10; refine Calls.quiet_of_same (SF.out _)))
        go_wp2
        go_roundw
        case rel => exact ⟨i + 1, by go_num, HI.out, Lib.hid (by obtain ⟨m, e⟩ := hq.out; exact ⟨m + nq, by rw [e, World.drewN_drewN]⟩)⟩
        case measure => have := HI.out; simp [intOf]; omega
      · have l2 : decide (i < l.length) = false := decide_eq_false hin
        have l3 : decide (l.length ≤ i) = true := decide_eq_true (by omega)
        have e0 : (l ++ mks 12)[i] = floatOfInt .f64 (mkI 1 ((i - l.length : Nat) : Int)) := by rw [List.getElem_append_right (by omega), mks_get]; rfl
        rw [e0] at d0
        obtain ⟨wm, nm⟩ := mkF_ok (i - l.length) (by omega)
        have te := o_eq_self wm
        rw [nm] at te
        have te' : (FloatKind.f64.format.order (floatOfInt .f64 (mkI 1 ((i - l.length : Nat) : Int))) (floatOfInt .f64 (mkI 1 ((i - l.length : Nat) : Int))) == some .eq) = true := te
        have d0' : wr.cell? ⟨g, i, none⟩ = some (.float .f64 (floatOfInt .f64 (mkI 1 ((i - l.length : Nat) : Int)))) := by obtain ⟨m, e⟩ := hq.out; rw [e]; exact d0
        have MK : Hid (∀ w, Calls Tryz.prog 35 #[.int .i64 1, .int .i64 ((i - l.length : Nat) : Int)] w fun e w' => e = .returned (.int .i64 (mkI 1 ((i - l.length : Nat) : Int))) ∧ w' = w) := Lib.hid (fun w => mark_c 1 _ (by omega) (by omega) (by omega) (by omega) w)
        have j4 : IntKind.i64.wrap ((i : Int) - (l.length : Int)) = ((i - l.length : Nat) : Int) := by rw [IntKind.wrap_i64]; omega
        clear d0 e0 wm nm te hlt hlt2 hin
        go_wp2
        go_quiet ((go_at_call 35; refine Calls.quiet_of_same (MK.out _)))
        go_wp2
        go_roundw
        case rel => exact ⟨i + 1, by go_num, HI.out, Lib.hid (by obtain ⟨m, e⟩ := hq.out; exact ⟨m + nq, by rw [e, World.drewN_drewN]⟩)⟩
        case measure => have := HI.out; simp [intOf]; omega
    · have l1 : decide (i < l.length + 12) = false := decide_eq_false hlt
      have l1' : decide ((i : Int) < (l.length : Int) + 12) = false := decide_eq_false (by omega)
      clear hlt
      go_wp2
      go_ret
      exact ⟨rfl, hq.out⟩
/-- Nothing but one block is changed. -/
structure Ov (w w' : World) (g : Nat) : Prop where
  b : Below 0 w w'
  o : ∀ k, k ≠ g → w'.heap[k]? = w.heap[k]?
theorem Ov.below {W w w' : World} {g : Nat} (h : Ov w w' g) (hb : Below W.heap.size W w) (hg : W.heap.size ≤ g) : Below W.heap.size W w' :=
  ⟨h.b.os.trans hb.os, h.b.tape.trans hb.tape, h.b.output.trans hb.output, Nat.le_trans hb.size h.b.size, fun k hk => (h.o k (by omega)).trans (hb.block k hk)⟩
end Go.Proofs.YtaedkekjekbjmaaGreatDoor

/- girderkit: a chain lent, and kept. -/
namespace Go.Proofs.YtaedkekjekbjmaaGreatDoor
open Go Go.RowKit Nv GFl Ieee
open Go.Proofs.YtaedkekjekbjmaaGreatDoorW.PrintWords (own_move own_ne own_lt own_base)
set_option maxRecDepth 100000
set_option linter.unusedSimpArgs false

theorem Lent.below_ {w w' : World} {B g : Nat} {l : List Nat} (h : Lent w B g l) (hb : Below w.heap.size w w') : Lent w' B g l := ow_below h hb
theorem Lent.set {w : World} {B g b : Nat} {l : List Nat} {cs : Array Value} (h : Lent w B g l) (hb : w.heap[b]? = some (.cells cs 24 (0, 0))) (i : Nat) (u : Value) : Lent (w.setCell ⟨b, i, none⟩ u) B g l :=
  own_move h (fun k hk => heap_other' (fun e => own_ne h hb f_ne (by rw [hk, e])) i u)
theorem Lent.base {w : World} {B B' g : Nat} {l : List Nat} (h : Lent w B g l) (hb : B' ≤ B) : Lent w B' g l := ow_base h hb
abbrev nilX : Obj := .cells #[.slice none 0 0, .slice none 0 0] 24
set_option maxHeartbeats 4000000 in
theorem lent_chain_c {W : World} (A B : Option Addr) (cA cB : Nat) (d o : List Nat) (hd : Fl W A d) (ho : Fl W B o) (nA : A = none → cA = 0 ∧ d = []) (nB : B = none → cB = 0 ∧ o = []) (zA : d.length * 8 ≤ 140737488351232) (zB : o.length * 8 ≤ 140737488351232) :
    Calls Tryz.prog 6 #[.agg #[.slice A d.length cA, .slice B o.length cB]] W fun e w' => ∃ g1 g2, e = .returned (.agg #[.slice (some ⟨g1, 0, none⟩) d.length (d.length + 12), .slice (some ⟨g2, 0, none⟩) o.length (o.length + 12)]) ∧ Lent w' W.heap.size g1 d ∧ Lent w' W.heap.size g2 o ∧ Below W.heap.size W w' := by
  have LP : Hid (∀ w, Below W.heap.size W w → Calls Tryz.prog 16 #[.slice A d.length cA] w fun e w' => ∃ g, e = .returned (.slice (some ⟨g, 0, none⟩) d.length (d.length + 12)) ∧ w.heap.size ≤ g ∧ Lent w' w.heap.size g d ∧ Below w.heap.size w w') := Lib.hid (fun w h => lent_reals_c A cA d (hd.below h) nA zA)
  have LL : Hid (∀ w, Below W.heap.size W w → Calls Tryz.prog 16 #[.slice B o.length cB] w fun e w' => ∃ g, e = .returned (.slice (some ⟨g, 0, none⟩) o.length (o.length + 12)) ∧ w.heap.size ≤ g ∧ Lent w' w.heap.size g o ∧ Below w.heap.size w w') := Lib.hid (fun w h => lent_reals_c B cB o (ho.below h) nB zB)
  clear hd ho nA nB zA zB
  have B0 : Hid (Below W.heap.size W ((W.alloc (.cells #[.slice A d.length cA, .slice B o.length cB] 24)).alloc nilX)) := Lib.hid (by repeat' (first | (with_reducible exact Below.refl _ _) | (with_reducible refine bl_alloc ?_ _) | (with_reducible refine bl_drewN ?_ _) | (with_reducible refine bl_drew ?_) | (with_reducible refine bl_set ?_ _ (by simp))))
  obtain ⟨k0, k1⟩ := two_blk' W (.cells #[.slice A d.length cA, .slice B o.length cB] 24) nilX
  go_enter Tryz.func6, Tryz.ntmps6
  go_upto_region 2 with (first
    | (go_at_call 16; (with_reducible refine (LP.out _ B0.out).mono ?_); rintro e w1 ⟨g1, rfl, hg, hL, hb⟩; have q0 := kb_keep hb k0; have q1 := kb_keep hb k1; have H1 := Lib.hid ((hL.base B0.out.size).set q0 0 (.slice (some ⟨g1, 0, none⟩) d.length (d.length + 12))); have r0 := heap_set q0 0 (.slice (some ⟨g1, 0, none⟩) d.length (d.length + 12)); have r1 := (heap_other' (show W.heap.size + 1 ≠ W.heap.size by omega) 0 (.slice (some ⟨g1, 0, none⟩) d.length (d.length + 12))).trans q1; have B1 := Lib.hid (bl_set (bl_then B0.out hb) (p := ⟨W.heap.size, 0, none⟩) (.slice (some ⟨g1, 0, none⟩) d.length (d.length + 12)) (Nat.le_refl _)); have c0 := kb_cell q0 (i := 0) rfl; have f0 := kb_frozen q0 0; clear hg hL hb))
  obtain ⟨w2, hw2⟩ : ∃ w, w1.setCell ⟨W.heap.size, 0, none⟩ (.slice (some ⟨g1, 0, none⟩) d.length (d.length + 12)) = w := ⟨_, rfl⟩
  rw [hw2] at H1 r0 r1 B1
  try simp only [hw2]
  clear hw2 c0 f0 q0 q1
  have c1 := kb_cell r0 (i := 1) rfl
  go_upto_region 3 with (first
    | (go_at_call 16; (with_reducible refine (LL.out _ B1.out).mono ?_); rintro e w3 ⟨g2, rfl, hg, hL, hb⟩; have q0 := kb_keep hb r0; have q1 := kb_keep hb r1; have H2 := Lib.hid ((hL.base B1.out.size).set q0 1 (.slice (some ⟨g2, 0, none⟩) o.length (o.length + 12))); have H1 := Lib.hid ((H1.out.below_ hb).set q0 1 (.slice (some ⟨g2, 0, none⟩) o.length (o.length + 12))); have r2 := heap_set q0 1 (.slice (some ⟨g2, 0, none⟩) o.length (o.length + 12)); have r3 := (heap_other' (show W.heap.size + 1 ≠ W.heap.size by omega) 1 (.slice (some ⟨g2, 0, none⟩) o.length (o.length + 12))).trans q1; have B2 := Lib.hid (bl_set (bl_then B1.out hb) (p := ⟨W.heap.size, 1, none⟩) (.slice (some ⟨g2, 0, none⟩) o.length (o.length + 12)) (Nat.le_refl _)); have c0 := kb_cell q0 (i := 1) rfl; have f0 := kb_frozen q0 1; clear hg hL hb))
  obtain ⟨w4, hw4⟩ : ∃ w, w3.setCell ⟨W.heap.size, 1, none⟩ (.slice (some ⟨g2, 0, none⟩) o.length (o.length + 12)) = w := ⟨_, rfl⟩
  rw [hw4] at H1 H2 r2 r3 B2
  try simp only [hw4]
  clear hw4 c0 c1 f0 q0 q1 r0 r1 k0 k1
  have e0 := kb_cell r2 (i := 0) rfl
  have e1 := kb_cell r2 (i := 1) rfl
  have e2 := kb_cell r3 (i := 0) rfl
  have e3 := kb_cell r3 (i := 1) rfl
  have f2 := kb_frozen r3 0
  have f3 := kb_frozen r3 1
  have z2 := heap_set (heap_set r3 0 (.slice (some ⟨g1, 0, none⟩) d.length (d.length + 12))) 1 (.slice (some ⟨g2, 0, none⟩) o.length (o.length + 12))
  have Z0 := Lib.hid (kb_cell z2 (i := 0) rfl)
  have Z1 := Lib.hid (kb_cell z2 (i := 1) rfl)
  go_wp2
  refine bodyPost_ret (v := .agg #[.slice (some ⟨g1, 0, none⟩) d.length (d.length + 12), .slice (some ⟨g2, 0, none⟩) o.length (o.length + 12)]) (by simp [results, Tryz.results6, go_sem, Z0.out, Z1.out]) rfl ?_
  exact ⟨g1, g2, rfl, (H1.out.set r3 0 _).set (heap_set r3 0 _) 1 _, (H2.out.set r3 0 _).set (heap_set r3 0 _) 1 _, bl_set (bl_set B2.out _ (by simp)) _ (by simp)⟩
set_option maxHeartbeats 4000000 in
theorem kept_chain_c {W : World} (A B : Option Addr) (cA cB g1 g2 : Nat) (d o : List Nat) (hd : Fl W A d) (ho : Fl W B o) (wd : ∀ x ∈ d, W64 x) (wo : ∀ x ∈ o, W64 x) (zA : d.length * 8 ≤ 140737488351232) (zB : o.length * 8 ≤ 140737488351232) {b1 b2 : Nat} (h1 : Lent W b1 g1 d) (h2 : Lent W b2 g2 o) :
    Calls Tryz.prog 9 #[.agg #[.slice (some ⟨g1, 0, none⟩) d.length (d.length + 12), .slice (some ⟨g2, 0, none⟩) o.length (o.length + 12)], .agg #[.slice A d.length cA, .slice B o.length cB]] W fun e w' => e = .returned (.bool true) ∧ Below W.heap.size W w' := by
  have SC : Hid (∀ w, Below W.heap.size W w → Calls Tryz.prog 28 #[.agg #[.slice (some ⟨g1, 0, none⟩) d.length (d.length + 12), .slice (some ⟨g2, 0, none⟩) o.length (o.length + 12)], .agg #[.slice A d.length cA, .slice B o.length cB]] w fun e w' => e = .returned (.bool true) ∧ Below w.heap.size w w') := Lib.hid (fun w h => same_chain_c _ _ A B _ _ cA cB d o w (h1.below_ h).fl (hd.below h) (h2.below_ h).fl (ho.below h) wd wo)
  have K1 : Hid (∀ w, Below W.heap.size W w → Calls Tryz.prog 29 #[.slice (some ⟨g1, 0, none⟩) d.length (d.length + 12), .slice A d.length cA] w fun e w' => e = .returned (.bool true) ∧ ∃ m, w' = w.drewN m) := Lib.hid (fun w h => kept_reals_c g1 A _ cA d w (h1.below_ h).ow (hd.below h) rfl wd zA)
  have K2 : Hid (∀ w, Below W.heap.size W w → Calls Tryz.prog 29 #[.slice (some ⟨g2, 0, none⟩) o.length (o.length + 12), .slice B o.length cB] w fun e w' => e = .returned (.bool true) ∧ ∃ m, w' = w.drewN m) := Lib.hid (fun w h => kept_reals_c g2 B _ cB o w (h2.below_ h).ow (ho.below h) rfl wo zB)
  clear hd ho wd wo zA zB h1 h2
  have B0 : Hid (Below W.heap.size W ((W.alloc (.cells #[.slice (some ⟨g1, 0, none⟩) d.length (d.length + 12), .slice (some ⟨g2, 0, none⟩) o.length (o.length + 12)] 24)).alloc (.cells #[.slice A d.length cA, .slice B o.length cB] 24))) := Lib.hid (by repeat' (first | (with_reducible exact Below.refl _ _) | (with_reducible refine bl_alloc ?_ _) | (with_reducible refine bl_drewN ?_ _) | (with_reducible refine bl_drew ?_) | (with_reducible refine bl_set ?_ _ (by simp))))
  obtain ⟨k0, k1⟩ := two_blk' W (.cells #[.slice (some ⟨g1, 0, none⟩) d.length (d.length + 12), .slice (some ⟨g2, 0, none⟩) o.length (o.length + 12)] 24) (.cells #[.slice A d.length cA, .slice B o.length cB] 24)
  go_enter Tryz.func9, Tryz.ntmps9
  go_wp2_with (first
    | (go_at_call 28; (with_reducible refine (SC.out _ B0.out).mono ?_); rintro e w7 ⟨rfl, hb⟩; have B0 := Lib.hid (bl_then B0.out hb); have q0 := kb_keep hb k0; have q1 := kb_keep hb k1; have c0 := kb_cell q0 (i := 0) rfl; have c1 := kb_cell q0 (i := 1) rfl; have c2 := kb_cell q1 (i := 0) rfl; have c3 := kb_cell q1 (i := 1) rfl; clear hb)
    | (go_at_call 29; (with_reducible (first | refine (K1.out _ B0.out).mono ?_ | refine (K2.out _ B0.out).mono ?_)); rintro e w7 ⟨rfl, m, rfl⟩; have B0 := Lib.hid (bl_drewN B0.out m)))
  go_ret
  exact ⟨rfl, by first | exact B0.out | exact bl_drewN B0.out _ | (rw [← World.drewN_drewN]; exact B0.out)⟩
end Go.Proofs.YtaedkekjekbjmaaGreatDoor

/- girderref17.at, middle; girderkit.SameFloat of a float with itself; a chain lent beside the one handed in. -/
namespace Go.Proofs.YtaedkekjekbjmaaGreatDoor
open Go Go.RowKit Nv GFl Ieee
set_option maxRecDepth 100000
set_option linter.unusedSimpArgs false

theorem NS.up {w : World} {v : Value} {k : Nat} {E z : Int} (h : NS w v k E z) {k' : Nat} {E' : Int} (hk : k ≤ k') (hE : E ≤ E') : NS w v k' E' (z * 2 ^ (k' - k)) := by
  obtain ⟨g, m, x, h1, h2, h3, h4, h5⟩ := h
  refine ⟨g, m, x, h1, h2, by omega, by omega, ?_⟩
  rw [← h5, show (x + (k' : Int)).toNat = (x + (k : Int)).toNat + (k' - k) by omega, Int.pow_add, Int.mul_assoc]
theorem atS_c (p : Int) (h1 : -6867989431740006400 ≤ p) (h2 : p ≤ 6867989431740006400) (w : World) : Calls Tryz.prog 27 #[.int .i64 p] w fun e w' => e = .returned (.float .f64 (atW p)) ∧ w' = w := by
  have ea : atF p = atW p := by unfold atF; rw [if_pos (by rw [atOk_eq]; simp; omega)]
  have ac := atR_c p (by omega) (by omega)
  rw [ea] at ac
  have AC := Lib.hid ac
  clear ac ea h1 h2
  go_enter Tryz.func27, Tryz.ntmps27
  go_wp2_with (go_at_call 45; (with_reducible refine (AC.out _).mono ?_); rintro e w' ⟨rfl, hw⟩; obtain rfl := hw.symm; clear hw)
  go_ret
  exact ⟨rfl, rfl⟩
theorem mid_c (a b : Int) (h1 : -6867989431740006400 ≤ a) (h2 : b ≤ 6867989431740006400) (h3 : a < b) (h4 : b - a ≤ 9000000000000000000) (w : World) : Calls Tryz.prog 24 #[.int .i64 a, .int .i64 b] w fun e w' => e = .returned (.int .i64 (a + (b - a) / 2)) ∧ w' = w := by
  obtain ⟨H, hH⟩ : ∃ H : Int, (b - a) / 2 = H := ⟨_, rfl⟩
  have w1 : wrap64 (b - a) = b - a := by unfold wrap64; omega
  have w2 : (b - a).tdiv 2 = H := by rw [Int.tdiv_eq_ediv_of_nonneg (by omega)]; exact hH
  have w3 : wrap64 H = H := by unfold wrap64; omega
  have w4 : wrap64 (a + H) = a + H := by unfold wrap64; omega
  rw [hH]
  have W4 := Lib.hid w4
  clear hH h1 h2 h3 h4
  go_enter Tryz.func24, Tryz.ntmps24
  go_wp2
  go_ret
  exact ⟨ret_int W4.out, rfl⟩
section
attribute [local go_sem] run_f64bits
theorem same_floatq_c (x : Nat) (w : World) : Calls Tryz.prog 10 #[.float .f64 x, .float .f64 x] w fun e w' => e = .returned (.bool true) ∧ w = w' := by
  go_enter Tryz.func10, Tryz.ntmps10
  go_wp2
  go_ret
  exact ⟨rfl, rfl⟩
end
/-- The chain lent, and the one handed in, in blocks of their own. -/
structure CL (W w : World) (u v u' v' : Value) (bq g1 g2 : Nat) (d o : List Nat) : Prop where
  b : Below W.heap.size W w
  r : w.heap[W.heap.size]? = some (.cells #[u, v] 24 (0, 0))
  q : w.heap[bq]? = some (.cells #[u', v'] 24 (0, 0))
  l1 : ∃ B, Lent w B g1 d
  l2 : ∃ B, Lent w B g2 o
theorem CL.then {W w w' : World} {u v u' v' : Value} {b g1 g2 : Nat} {d o : List Nat} (h : CL W w u v u' v' b g1 g2 d o) (hb : Below w.heap.size w w') : CL W w' u v u' v' b g1 g2 d o :=
  ⟨bl_then h.b hb, kb_keep hb h.r, kb_keep hb h.q, h.l1.imp fun _ h => h.below_ hb, h.l2.imp fun _ h => h.below_ hb⟩
theorem CL.drewN {W w : World} {u v u' v' : Value} {b g1 g2 : Nat} {d o : List Nat} (h : CL W w u v u' v' b g1 g2 d o) (n : Nat) : CL W (w.drewN n) u v u' v' b g1 g2 d o := h.then (bl_drewN (Below.refl _ _) n)
theorem CL.drew {W w : World} {u v u' v' : Value} {b g1 g2 : Nat} {d o : List Nat} (h : CL W w u v u' v' b g1 g2 d o) : CL W w.drew u v u' v' b g1 g2 d o := h.then (bl_drew (Below.refl _ _))
theorem CL.fl1 {W w : World} {u v u' v' : Value} {b g1 g2 : Nat} {d o : List Nat} (h : CL W w u v u' v' b g1 g2 d o) : Fl w (some ⟨g1, 0, none⟩) d := by obtain ⟨B, h⟩ := h.l1; exact h.fl
theorem CL.fl2 {W w : World} {u v u' v' : Value} {b g1 g2 : Nat} {d o : List Nat} (h : CL W w u v u' v' b g1 g2 d o) : Fl w (some ⟨g2, 0, none⟩) o := by obtain ⟨B, h⟩ := h.l2; exact h.fl
end Go.Proofs.YtaedkekjekbjmaaGreatDoor

/- girderref17.Find; girderlaw17.SturmFinds. -/
namespace Go.Proofs.YtaedkekjekbjmaaGreatDoor
open Go Go.RowKit Nv GFl Ieee
open Go.Proofs.YtaedkekjekbjmaaGreatDoorW.PrintWords (own_move own_ne own_lt own_base)
set_option maxRecDepth 100000
set_option linter.unusedSimpArgs false

/-- The two places at the head of Find's loop. -/
def FJ (d o : List Nat) (k a b : Int) : Prop := (a = -6867989431740006400 ∧ b = 6867989431740006400) ∨ ((0 ≤ a ∨ b ≤ 0) ∧ ∃ n, b - a ≤ 2 ^ n ∧ n ≤ 64 ∧ hlv (over d o k) n a b = findP d o k)
theorem FJ.zero {d o : List Nat} {k a b : Int} (h : FJ d o k a b) (hn : ¬ (0 ≤ a ∨ b ≤ 0)) : a < 0 ∧ 0 < b ∧ (over d o k 0 = true → FJ d o k a 0) ∧ (over d o k 0 = false → FJ d o k 0 b) := by
  rcases h with ⟨rfl, rfl⟩ | ⟨h, _⟩
  · refine ⟨by decide, by decide, fun h => Or.inr ⟨Or.inr (by decide), 64, by decide, by decide, ?_⟩, fun h => Or.inr ⟨Or.inl (by decide), 64, by decide, by decide, ?_⟩⟩
    · unfold findP; rw [if_pos h]
    · unfold findP; rw [if_neg (by rw [h]; decide)]
  · exact absurd h hn
theorem FJ.half {d o : List Nat} {k a b M : Int} (h : FJ d o k a b) (hn : 0 ≤ a ∨ b ≤ 0) (hlt : 1 < b - a) (hM : a + (b - a) / 2 = M) : a < M ∧ M < b ∧ (over d o k M = true → FJ d o k a M) ∧ (over d o k M = false → FJ d o k M b) := by
  have b1 : a < M := by omega
  have b2 : M < b := by omega
  rcases h with ⟨rfl, rfl⟩ | ⟨_, n, e1, e2, e3⟩
  · omega
  · cases n with
    | zero => simp at e1; omega
    | succ n =>
      have e4 : (if over d o k M then hlv (over d o k) n a M else hlv (over d o k) n M b) = findP d o k := by
        rw [← e3]
        show _ = (if 1 < b - a then _ else _)
        rw [if_pos hlt, hM]
      rw [Int.pow_succ] at e1
      refine ⟨b1, b2, fun ht => Or.inr ⟨by omega, n, ?_, by omega, ?_⟩, fun ht => Or.inr ⟨by omega, n, ?_, by omega, ?_⟩⟩
      · generalize (2 : Int) ^ n = z at *; omega
      · rw [if_pos ht] at e4; exact e4
      · generalize (2 : Int) ^ n = z at *; omega
      · rw [if_neg (by rw [ht]; decide)] at e4; exact e4
theorem FJ.fin {d o : List Nat} {k a b : Int} (h : FJ d o k a b) (hlt : ¬ 1 < b - a) : findP d o k = (a, b) := by
  rcases h with ⟨rfl, rfl⟩ | ⟨_, n, e1, e2, e3⟩
  · exact absurd (by decide) hlt
  · rw [← e3, hlv_stop _ n hlt]
set_option maxHeartbeats 8000000 in
theorem findR_c (A B : Option Addr) (cA cB : Nat) (d o : List Nat) (k : Int) (W : World) (hd : Fl W A d) (ho : Fl W B o) (wd : ∀ x ∈ d, W64 x) (wo : ∀ x ∈ o, W64 x) :
    Calls Tryz.prog 8 #[.agg #[.slice A d.length cA, .slice B o.length cB], .int .i64 k] W fun e w' => e = .returned (.tuple #[.float .f64 (findL d o k), .float .f64 (findH d o k), .int .i64 (findE d o k)]) ∧ Below W.heap.size W w' := by
  have rc : ∀ w, Below W.heap.size W w → Calls Tryz.prog 21 #[.agg #[.slice A d.length cA, .slice B o.length cB]] w fun e w' => e = .returned (.bool (rightB d o)) ∧ Below w.heap.size w w' := fun w h => rightR_c A B cA cB d o w (hd.below h) (ho.below h) wd wo
  have BA := Lib.hid ((Below.refl W.heap.size W).alloc (Nat.le_refl _) (.cells #[.slice A d.length cA, .slice B o.length cB] 24))
  have hl := hd.2.1
  have TW : Hid (∀ w, Calls Tryz.prog 23 #[.int .i64 502] w fun e w' => e = .returned (.float .f64 6867989431740006400) ∧ w' = w) := Lib.hid t502_c
  have pf : placeF 6867989431740006400 = 6867989431740006400 := by decide
  have pn : isn 6867989431740006400 = false := by decide
  have pc := placeR_c 6867989431740006400 (w_const (by decide))
  rw [pf, pn] at pc
  have PC := Lib.hid pc
  clear pf pn pc
  by_cases he : findE d o k = 0
  · have hr : rightB d o = true := by unfold findE at he; by_cases h : rightB d o = true; exact h; rw [if_neg h] at he; cases he
    have hk1 : ¬ k < 0 := by unfold findE at he; rw [if_pos hr] at he; intro h; rw [if_pos h] at he; cases he
    have hk2 : ¬ (d.length : Int) ≤ k := by unfold findE at he; rw [if_pos hr, if_neg hk1] at he; intro h; rw [if_pos h] at he; cases he
    obtain ⟨r1, r2, r3, r4, r5⟩ := rightB_d hr
    have fl : ∀ p : Int, -6867989431740006400 ≤ p → p ≤ 6867989431740006400 → ∀ w, Calls Tryz.prog 26 #[.float .f64 (atW p)] w (ZPost 1074 1023 (val (atW p)) w) := fun p h1 h2 w => float_s _ (atW_r h1 h2).2.1 (by rw [(atW_r h1 h2).1]; omega)
    have bc : ∀ p : Int, -6867989431740006400 ≤ p → p ≤ 6867989431740006400 → ∀ w v, Below W.heap.size W w → NS w v 1074 1023 (val (atW p)) → Calls Tryz.prog 25 #[.agg #[.slice A d.length cA, .slice B o.length cB], v] w fun e w' => e = .returned (.int .i64 (St.cnt (val (atW p)) (d.map val) (o.map val))) ∧ Below w.heap.size w w' := fun p h1 h2 w v hb hv =>
      belowR_c A B cA cB d o v _ w (hd.below hb) (ho.below hb) (fun y hy => ⟨wd y hy, r4 y hy⟩) (fun y hy => ⟨wo y hy, r5 y hy⟩) (by omega) r2 hv (atW_r h1 h2).2.2
    have FL := Lib.hid fl
    have BC := Lib.hid bc
    rw [hr] at rc
    have RC := Lib.hid rc
    have el : findL d o k = atW (findP d o k).1 := if_pos he
    have eh : findH d o k = atW (findP d o k).2 := if_pos he
    have EL := Lib.hid el
    have EH := Lib.hid eh
    have HE := Lib.hid he
    have k1 : decide (k < 0) = false := decide_eq_false hk1
    have k2 : decide ((d.length : Int) ≤ k) = false := decide_eq_false hk2
    clear rc fl bc el eh he hr hk1 hk2 hd ho wd wo r1 r2 r3 r4 r5
    go_enter Tryz.func8, Tryz.ntmps8
    go_wp2_with (first
      | (go_at_call 21; (with_reducible refine (RC.out _ BA.out).mono ?_); rintro e w1 ⟨rfl, hb⟩
         have hblk : w1.heap[W.heap.size]? = _ := kb_new hb
         have cc0 := kb_cell hblk (i := 0) rfl
         have K1 := Lib.hid hblk
         have HB := Lib.hid (BA.out.trans (hb.mono (by simp))); clear hb hblk)
      | (go_at_call 23; (with_reducible refine (TW.out _).mono ?_); rintro e w' ⟨rfl, hw⟩; obtain rfl := hw.symm; clear hw)
      | (go_at_call 22; (with_reducible refine (PC.out _).mono ?_); rintro e w' ⟨rfl, hw⟩; obtain rfl := hw.symm; clear hw))
    clear cc0 RC TW PC
    go_loopw [9, 10, 11] (fun v9 v10 _ wr => ∃ (a b : Int), v9 = .int .i64 a ∧ v10 = .int .i64 b ∧ -6867989431740006400 ≤ a ∧ a < b ∧ b ≤ 6867989431740006400 ∧ Hid (Below W.heap.size W wr ∧ wr.heap[W.heap.size]? = some (.cells #[.slice A d.length cA, .slice B o.length cB] 24 (0, 0)) ∧ FJ d o k a b)) (fun v0 v1 _ _ => (intOf v1 - intOf v0).toNat)
    case atStart => exact ⟨_, _, rfl, rfl, by decide, by decide, by decide, Lib.hid ⟨HB.out, K1.out, Or.inl ⟨rfl, rfl⟩⟩⟩
    case round =>
      obtain ⟨a, b, rfl, rfl, h1, h2, h3, hq⟩ := hrel
      clear HB K1
      have w1 : wrap64 (a + 1) = a + 1 := by unfold wrap64; omega
      by_cases hlt : 1 < b - a
      · have l1 : decide (a + 1 < b) = true := decide_eq_true (by omega)
        have hM : ∃ M, a < M ∧ M < b ∧ ((¬ (0 ≤ a ∨ b ≤ 0) ∧ M = 0) ∨ ((0 ≤ a ∨ b ≤ 0) ∧ a + (b - a) / 2 = M)) ∧ (over d o k M = true → FJ d o k a M) ∧ (over d o k M = false → FJ d o k M b) := by
          by_cases hn : 0 ≤ a ∨ b ≤ 0
          · obtain ⟨x1, x2, x3, x4⟩ := hq.out.2.2.half hn hlt rfl
            exact ⟨_, x1, x2, Or.inr ⟨hn, rfl⟩, x3, x4⟩
          · obtain ⟨x1, x2, x3, x4⟩ := hq.out.2.2.zero hn
            exact ⟨0, x1, x2, Or.inl ⟨hn, rfl⟩, x3, x4⟩
        obtain ⟨M, b1, b2, hM, t1, t2⟩ := hM
        have FLM := Lib.hid (FL.out M (by omega) (by omega))
        have BCM := Lib.hid (BC.out M (by omega) (by omega))
        have AC := Lib.hid (atS_c M (by omega) (by omega))
        have ov : over d o k M = decide (k < St.cnt (val (atW M)) (d.map val) (o.map val)) := rfl
        obtain ⟨C, hC⟩ : ∃ C, St.cnt (val (atW M)) (d.map val) (o.map val) = C := ⟨_, rfl⟩
        rw [hC] at BCM ov
        have B1 := Lib.hid (And.intro b1 b2)
        have KB := Lib.hid hq.out.2.1
        have BL := Lib.hid hq.out.1
        have T1 := Lib.hid t1
        have T2 := Lib.hid t2
        have OV := Lib.hid ov
        clear ov hC t1 t2 b1 b2 hq hlt
        have hM3 : (decide (0 ≤ a) = false ∧ decide (b ≤ 0) = false ∧ M = 0) ∨ (decide (0 ≤ a) = true ∧ Hid (a + (b - a) / 2 = M ∧ b - a ≤ 9000000000000000000)) ∨ (decide (0 ≤ a) = false ∧ decide (b ≤ 0) = true ∧ Hid (a + (b - a) / 2 = M ∧ b - a ≤ 9000000000000000000)) := by
          rcases hM with ⟨x1, x2⟩ | ⟨x1, x2⟩
          · exact Or.inl ⟨decide_eq_false (by omega), decide_eq_false (by omega), x2⟩
          · by_cases x3 : 0 ≤ a
            · exact Or.inr (Or.inl ⟨decide_eq_true x3, Lib.hid ⟨x2, by omega⟩⟩)
            · exact Or.inr (Or.inr ⟨decide_eq_false x3, decide_eq_true (by omega), Lib.hid ⟨x2, by omega⟩⟩)
        clear hM
        have MC : Hid (a + (b - a) / 2 = M → b - a ≤ 9000000000000000000 → ∀ w, Calls Tryz.prog 24 #[.int .i64 a, .int .i64 b] w fun e w' => e = .returned (.int .i64 M) ∧ w' = w) := Lib.hid (fun e e2 w => by rw [← e]; exact mid_c a b h1 h3 h2 e2 w)
        rcases hM3 with ⟨la, lb, rfl⟩ | ⟨la, hm⟩ | ⟨la, lb, hm⟩
        all_goals
          go_upto_region 13 with (first
            | (go_at_call 24; (with_reducible refine (MC.out hm.out.1 hm.out.2 _).mono ?_); rintro e w' ⟨rfl, hw⟩; obtain rfl := hw.symm; clear hw))
          refine wp_region_G (g := 4) (S := fun w' => w'.cell? ⟨W.heap.size, 0, none⟩ = some (.slice A d.length cA) ∧ w'.cell? ⟨W.heap.size, 1, none⟩ = some (.slice B o.length cB)) (by kernel_rfl) ?_
          have BD := Lib.hid (bl_drew BL.out)
          have KD := Lib.hid (kb_keep (dr_below _) KB.out)
          obtain ⟨w2, hw2⟩ : ∃ w, wr.drew = w := ⟨_, rfl⟩
          rw [hw2] at BD KD
          simp only [hw2]
          clear hw2
          have hS : w2.cell? ⟨W.heap.size, 0, none⟩ = some (.slice A d.length cA) ∧ w2.cell? ⟨W.heap.size, 1, none⟩ = some (.slice B o.length cB) := ⟨kb_cell KD.out (i := 0) rfl, kb_cell KD.out (i := 1) rfl⟩
          (refine wpG_ld (i := 0) 4 (v := ?_) rfl rfl (by kernel_rfl) (by kernel_rfl) (by kernel_rfl) (by kernel_rfl) (fun _ _ _ h => h) (Or.inl ⟨by rfl, ?_⟩) hS ?_; rotate_left; focus (intro w hSw; (try dsimp only at hSw); go_simp; first | done | with_reducible rfl | exact rfl)); (try simp only [Act.put, List.setIfInBounds_toArray, List.set_cons_zero, List.set_cons_succ, List.getElem_toArray, List.getElem_cons_zero, List.getElem_cons_succ])
          (refine wpG_take (i := 1) (v := ?_) rfl rfl (by kernel_rfl) (by kernel_rfl) (by kernel_rfl) (fun _ _ _ h => h) (Or.inl ⟨by rfl, fun w => ?_⟩) (Or.inr hS) ?_; rotate_left; focus (go_simp; first | done | with_reducible rfl | exact rfl)); (try simp only [Act.put, List.setIfInBounds_toArray, List.set_cons_zero, List.set_cons_succ, List.getElem_toArray, List.getElem_cons_zero, List.getElem_cons_succ]); (refine wpG_take (i := 5) (v := ?_) rfl rfl (by kernel_rfl) (by kernel_rfl) (by kernel_rfl) (fun _ _ _ h => h) (Or.inl ⟨by rfl, fun w => ?_⟩) (Or.inr hS) ?_; rotate_left; focus (go_simp; first | done | with_reducible rfl | exact rfl)); (try simp only [Act.put, List.setIfInBounds_toArray, List.set_cons_zero, List.set_cons_succ, List.getElem_toArray, List.getElem_cons_zero, List.getElem_cons_succ])
          refine wpG_one (i := 2) (by kernel_rfl) rfl (fun K hK => ?_); have HK := Lib.hid hK; clear hK
          go_simp
          (with_reducible refine (AC.out _).mono ?_)
          rintro e w' ⟨rfl, hw⟩
          obtain rfl := hw.symm
          clear hw
          refine HK.out _ _ (Or.inr hS) ?_
          clear HK K
          (try simp only [Act.put, List.setIfInBounds_toArray, List.set_cons_zero, List.set_cons_succ, List.getElem_toArray, List.getElem_cons_zero, List.getElem_cons_succ])
          refine wpG_one (i := 3) (by kernel_rfl) rfl (fun K hK => ?_); have HK := Lib.hid hK; clear hK
          go_simp
          (with_reducible refine (FLM.out _).mono ?_)
          rintro e w3 ⟨v, rfl, hv, hb⟩
          have HV := Lib.hid hv
          have B2 := Lib.hid (bl_then BD.out hb)
          have K2 := Lib.hid (kb_keep hb KD.out)
          have hS2 := And.intro (kb_cB hb hS.1) (kb_cB hb hS.2)
          refine HK.out _ _ (Or.inr hS2) ?_
          clear HK K hv hb hS
          (try simp only [Act.put, List.setIfInBounds_toArray, List.set_cons_zero, List.set_cons_succ, List.getElem_toArray, List.getElem_cons_zero, List.getElem_cons_succ])
          have hS := hS2
          refine wpG_one (i := 4) (by kernel_rfl) rfl (fun K hK => ?_); have HK := Lib.hid hK; clear hK
          go_simp
          (with_reducible refine (BCM.out _ _ B2.out HV.out).mono ?_)
          rintro e w4 ⟨rfl, hb⟩
          have B3 := Lib.hid (bl_then B2.out hb)
          have K3 := Lib.hid (kb_keep hb K2.out)
          refine HK.out _ _ (Or.inl (by kernel_rfl)) ?_
          clear HK K hb hS hS2
          (try simp only [Act.put, List.setIfInBounds_toArray, List.set_cons_zero, List.set_cons_succ, List.getElem_toArray, List.getElem_cons_zero, List.getElem_cons_succ])
          (refine wpG_take (i := 6) (v := ?_) rfl rfl (by kernel_rfl) (by kernel_rfl) (by kernel_rfl) (fun _ _ _ h => h) (Or.inl ⟨by rfl, fun w => ?_⟩) (Or.inl (by kernel_rfl)) ?_; rotate_left; focus (go_simp; first | done | with_reducible rfl | exact rfl)); (try simp only [Act.put, List.setIfInBounds_toArray, List.set_cons_zero, List.set_cons_succ, List.getElem_toArray, List.getElem_cons_zero, List.getElem_cons_succ])
          refine wpG_done (by kernel_rfl) ?_ _
          cases hc : decide (k < C)
          all_goals
            have HC := Lib.hid hc
            go_wp2
            go_roundw
            case rel =>
              have := B1.out
              first
                | (have e := T2.out (by rw [OV.out, HC.out]); exact ⟨_, b, rfl, rfl, by omega, by omega, by omega, Lib.hid ⟨B3.out, K3.out, e⟩⟩)
                | (have e := T1.out (by rw [OV.out, HC.out]); exact ⟨a, _, rfl, rfl, by omega, by omega, by omega, Lib.hid ⟨B3.out, K3.out, e⟩⟩)
            case measure => have := B1.out; simp [intOf]; omega
      · have l1 : decide (a + 1 < b) = false := decide_eq_false (by omega)
        have FIN := Lib.hid (hq.out.2.2.fin hlt)
        have BL := Lib.hid hq.out.1
        have AC := Lib.hid (atS_c a (by omega) (by omega))
        have AC2 := Lib.hid (atS_c b (by omega) (by omega))
        clear hq hlt
        go_wp2_with (first
          | (go_at_call 27; (first | (with_reducible refine (AC.out _).mono ?_) | (with_reducible refine (AC2.out _).mono ?_)); rintro e w' ⟨rfl, hw⟩; obtain rfl := hw.symm; clear hw))
        refine bodyPost_ret (v := .tuple #[.float .f64 (findL d o k), .float .f64 (findH d o k), .int .i64 (findE d o k)]) (by simp [results, Tryz.results8, go_sem, EL.out, EH.out, HE.out, FIN.out]) rfl ⟨rfl, BL.out⟩
  · have el : findL d o k = 0 := if_neg he
    have eh : findH d o k = 0 := if_neg he
    have EL := Lib.hid el
    have EH := Lib.hid eh
    have hcase : (rightB d o = false ∧ findE d o k = 4) ∨ (rightB d o = true ∧ decide (k < 0) = true ∧ findE d o k = 2) ∨ (rightB d o = true ∧ decide (k < 0) = false ∧ decide ((d.length : Int) ≤ k) = true ∧ findE d o k = 270) := by
      unfold findE at he ⊢
      cases hr : rightB d o
      · exact Or.inl ⟨rfl, by simp⟩
      · rw [hr] at he
        by_cases k1 : k < 0
        · exact Or.inr (Or.inl ⟨rfl, decide_eq_true k1, by simp [k1]⟩)
        · by_cases k2 : (d.length : Int) ≤ k
          · exact Or.inr (Or.inr ⟨rfl, decide_eq_false k1, decide_eq_true k2, by simp [k1, k2]⟩)
          · simp [k1, k2] at he
    clear el eh he hd ho wd wo
    rcases hcase with ⟨hr, ee⟩ | ⟨hr, k1, ee⟩ | ⟨hr, k1, k2, ee⟩
    all_goals
      rw [hr] at rc
      have RC := Lib.hid rc
      have EE := Lib.hid ee
      clear rc hr ee
      go_enter Tryz.func8, Tryz.ntmps8
      go_wp2_with (first
        | (go_at_call 21; (with_reducible refine (RC.out _ BA.out).mono ?_); rintro e w1 ⟨rfl, hb⟩
           have hblk : w1.heap[W.heap.size]? = _ := kb_new hb
           have cc0 := kb_cell hblk (i := 0) rfl
           have HB := Lib.hid (BA.out.trans (hb.mono (by simp))); clear hb hblk))
      refine bodyPost_ret (v := .tuple #[.float .f64 (findL d o k), .float .f64 (findH d o k), .int .i64 (findE d o k)]) (by simp [results, Tryz.results8, go_sem, EL.out, EH.out, EE.out]) rfl ⟨rfl, HB.out⟩
set_option maxHeartbeats 8000000 in
theorem sturmFinds_c {W : World} (A B : Option Addr) (cA cB : Nat) (d o : List Nat) (k : Int) (_hA : d.length ≤ cA) (_hB : o.length ≤ cB) (hd : Fl W A d) (ho : Fl W B o) (wd : ∀ x ∈ d, W64 x) (wo : ∀ x ∈ o, W64 x) (nA : A = none → cA = 0 ∧ d = []) (nB : B = none → cB = 0 ∧ o = []) (zA : d.length * 8 ≤ 140737488351232) (zB : o.length * 8 ≤ 140737488351232) (_ : -9223372036854775808 ≤ k) (_ : k ≤ 9223372036854775807) (hT : Tab W) :
    Calls Tryz.prog 3 #[.agg #[.slice A d.length cA, .slice B o.length cB], .int .i64 k] W fun e w' => e = .returned (.bool true) ∧ Below W.heap.size W w' := by
  have AW : Hid (∀ w, Below W.heap.size W w → Calls Tryz.prog 4 #[] w fun e w' => e = .returned (.bool true) ∧ Below w.heap.size w w') := Lib.hid (fun w h => awake_c w (hT.below h))
  have LC : Hid (∀ w, Below W.heap.size W w → Calls Tryz.prog 6 #[.agg #[.slice A d.length cA, .slice B o.length cB]] w fun e w' => ∃ g1 g2, e = .returned (.agg #[.slice (some ⟨g1, 0, none⟩) d.length (d.length + 12), .slice (some ⟨g2, 0, none⟩) o.length (o.length + 12)]) ∧ Lent w' w.heap.size g1 d ∧ Lent w' w.heap.size g2 o ∧ Below w.heap.size w w') := Lib.hid (fun w h => lent_chain_c A B cA cB d o (hd.below h) (ho.below h) nA nB zA zB)
  have RC : Hid (∀ w, Below W.heap.size W w → Calls Tryz.prog 5 #[.agg #[.slice A d.length cA, .slice B o.length cB]] w fun e w' => e = .returned (.bool (rightB d o)) ∧ Below w.heap.size w w') := Lib.hid (fun w h => right_c A B cA cB d o w (hd.below h) (ho.below h) wd wo)
  have FC : Hid (∀ w g1 g2 b u v u' v', CL W w u v u' v' b g1 g2 d o → Calls Tryz.prog 7 #[.agg #[.slice (some ⟨g1, 0, none⟩) d.length (d.length + 12), .slice (some ⟨g2, 0, none⟩) o.length (o.length + 12)], .int .i64 k] w fun e w' => e = .returned (.tuple #[.float .f64 (findL d o k), .float .f64 (findH d o k), .int .i64 (findE d o k)]) ∧ Below w.heap.size w w') := Lib.hid (fun w g1 g2 b u v u' v' h => find_c _ _ _ _ d o k w h.fl1 h.fl2 (by omega) (by omega) wd wo (hT.below h.b))
  have FR : Hid (∀ w, Below W.heap.size W w → Calls Tryz.prog 8 #[.agg #[.slice A d.length cA, .slice B o.length cB], .int .i64 k] w fun e w' => e = .returned (.tuple #[.float .f64 (findL d o k), .float .f64 (findH d o k), .int .i64 (findE d o k)]) ∧ Below w.heap.size w w') := Lib.hid (fun w h => findR_c A B cA cB d o k w (hd.below h) (ho.below h) wd wo)
  have KC : Hid (∀ w g1 g2 b u v u' v', CL W w u v u' v' b g1 g2 d o → Calls Tryz.prog 9 #[.agg #[.slice (some ⟨g1, 0, none⟩) d.length (d.length + 12), .slice (some ⟨g2, 0, none⟩) o.length (o.length + 12)], .agg #[.slice A d.length cA, .slice B o.length cB]] w fun e w' => e = .returned (.bool true) ∧ Below w.heap.size w w') := Lib.hid (fun w g1 g2 b u v u' v' h => by
    obtain ⟨B1, h1⟩ := h.l1
    obtain ⟨B2, h2⟩ := h.l2
    exact kept_chain_c A B cA cB g1 g2 d o (hd.below h.b) (ho.below h.b) wd wo zA zB h1 h2)
  obtain ⟨rB, hr⟩ : ∃ b, rightB d o = b := ⟨_, rfl⟩
  obtain ⟨rL, hrL⟩ : ∃ b, findL d o k = b := ⟨_, rfl⟩
  obtain ⟨rH, hrH⟩ : ∃ b, findH d o k = b := ⟨_, rfl⟩
  obtain ⟨rE, hrE⟩ : ∃ b, findE d o k = b := ⟨_, rfl⟩
  rw [hr] at RC
  rw [hrL, hrH, hrE] at FC FR
  obtain ⟨nd, hnd⟩ : ∃ n, d.length = n := ⟨_, rfl⟩
  obtain ⟨no, hno⟩ : ∃ n, o.length = n := ⟨_, rfl⟩
  rw [hnd, hno] at RC FC FR KC LC
  rw [hnd, hno]
  have SFL := Lib.hid (same_floatq_c rL)
  have SFH := Lib.hid (same_floatq_c rH)
  obtain ⟨t1, k1⟩ : ∃ b, decide (8 < (nd : Int)) = b := ⟨_, rfl⟩
  obtain ⟨t2, k2⟩ : ∃ b, decide (0 ≤ k) = b := ⟨_, rfl⟩
  obtain ⟨t3, k3⟩ : ∃ b, decide (k < (nd : Int)) = b := ⟨_, rfl⟩
  clear hd ho wd wo nA nB zA zB hT hr hrL hrH hrE _hA _hB hnd hno
  have key : (t1 = false) ∨ (t1 = true ∧ t2 = false) ∨ (t1 = true ∧ t2 = true ∧ t3 = false) ∨ (t1 = true ∧ t2 = true ∧ t3 = true ∧ rB = false) ∨ (t1 = true ∧ t2 = true ∧ t3 = true ∧ rB = true) := by
    cases t1 <;> cases t2 <;> cases t3 <;> cases rB <;> simp
  have B0 := Lib.hid (bl_alloc (Below.refl W.heap.size W) (.cells #[.slice A nd cA, .slice B no cB] 24))
  have R0 := Lib.hid (kb_new (w := W) (o := .cells #[.slice A nd cA, .slice B no cB] 24) (Below.refl _ _))
  rcases key with rfl | ⟨rfl, rfl⟩ | ⟨rfl, rfl, rfl⟩ | ⟨rfl, rfl, rfl, rfl⟩ | ⟨rfl, rfl, rfl, rfl⟩
  rotate_left 4
  · go_enter Tryz.func3, Tryz.ntmps3
    go_wp2_with (first
      | (go_at_call 4; (with_reducible refine (AW.out _ B0.out).mono ?_); rintro e w1 ⟨rfl, hb⟩; have B1 := Lib.hid (bl_then B0.out hb); have R1 := Lib.hid (kb_keep hb R0.out); have c0 := kb_cell R1.out (i := 0) rfl; have c1 := kb_cell R1.out (i := 1) rfl; clear hb)
      | (go_at_call 5; (with_reducible refine (RC.out _ B1.out).mono ?_); rintro e w2 ⟨rfl, hb⟩; have B2 := Lib.hid (bl_then B1.out hb); clear hb))
    go_ret
    exact ⟨rfl, B2.out⟩
  all_goals
    go_enter Tryz.func3, Tryz.ntmps3
    go_upto_region 5 with (first
      | (go_at_call 4; (with_reducible refine (AW.out _ B0.out).mono ?_); rintro e w1 ⟨rfl, hb⟩; have B0 := Lib.hid (bl_then B0.out hb); have R0 := Lib.hid (kb_keep hb R0.out); have c0 := kb_cell R0.out (i := 0) rfl; have c1 := kb_cell R0.out (i := 1) rfl; clear hb)
      | (go_at_call 5; (with_reducible refine (RC.out _ B0.out).mono ?_); rintro e w2 ⟨rfl, hb⟩; have B0 := Lib.hid (bl_then B0.out hb); have R0 := Lib.hid (kb_keep hb R0.out); clear hb c0 c1))
    try clear c0
    try clear c1
    have c0 := kb_cell R0.out (i := 0) rfl
    have c1 := kb_cell R0.out (i := 1) rfl
    go_upto_region 6 with (first
      | (go_at_call 6; (with_reducible refine (LC.out _ B0.out).mono ?_); rintro e w3 ⟨g1, g2, rfl, h1, h2, hb⟩; have H1 := Lib.hid h1; have H2 := Lib.hid h2; have B2 := Lib.hid (bl_then B0.out hb); have R2 := Lib.hid (kb_keep hb R0.out); clear c0 c1 hb h1 h2))
    have C0 : Hid (CL W (w3.alloc (.cells #[.slice (some ⟨g1, 0, none⟩) nd (nd + 12), .slice (some ⟨g2, 0, none⟩) no (no + 12)] 24)) (.slice A nd cA) (.slice B no cB) (.slice (some ⟨g1, 0, none⟩) nd (nd + 12)) (.slice (some ⟨g2, 0, none⟩) no (no + 12)) w3.heap.size g1 g2 d o) :=
      Lib.hid ⟨bl_alloc B2.out _, kb_alloc R2.out, kb_new (Below.refl _ _), ⟨_, H1.out.below_ (bl_alloc (Below.refl _ _) _)⟩, ⟨_, H2.out.below_ (bl_alloc (Below.refl _ _) _)⟩⟩
    obtain ⟨w4, hw4⟩ : ∃ w, w3.alloc (.cells #[.slice (some ⟨g1, 0, none⟩) nd (nd + 12), .slice (some ⟨g2, 0, none⟩) no (no + 12)] 24) = w := ⟨_, rfl⟩
    obtain ⟨bc, hbc⟩ : ∃ b, w3.heap.size = b := ⟨_, rfl⟩
    rw [hw4, hbc] at C0
    simp only [hw4, hbc]
    clear hw4 hbc H1 H2 B0 B2 R0 R2
    have q0 := kb_cell C0.out.q (i := 0) rfl
    have q1 := kb_cell C0.out.q (i := 1) rfl
    go_upto_region 8 with (first
      | (go_at_call 7; (with_reducible refine (FC.out _ _ _ _ _ _ _ _ C0.out).mono ?_); rintro e w5 ⟨rfl, hb⟩; have C0 := Lib.hid (C0.out.then hb); clear q0 q1 hb; have q0 := kb_cell C0.out.r (i := 0) rfl; have q1 := kb_cell C0.out.r (i := 1) rfl)
      | (go_at_call 8; (with_reducible refine (FR.out _ C0.out.b).mono ?_); rintro e w6 ⟨rfl, hb⟩; have C0 := Lib.hid (C0.out.then hb); clear q0 q1 hb))
    clear FC FR RC LC AW
    have q0 := kb_cell C0.out.r (i := 0) rfl
    have q1 := kb_cell C0.out.r (i := 1) rfl
    have q2 := kb_cell C0.out.q (i := 0) rfl
    have q3 := kb_cell C0.out.q (i := 1) rfl
    go_wp2_with (first
      | (go_at_call 9; (with_reducible refine (KC.out _ _ _ _ _ _ _ _ (by first | exact C0.out | exact C0.out.drew | exact C0.out.drewN _)).mono ?_); rintro e w9 ⟨rfl, hb⟩; have C1 := Lib.hid ((show CL W _ _ _ _ _ bc g1 g2 d o by first | exact C0.out | exact C0.out.drew | exact C0.out.drewN _).then hb); clear q0 q1 q2 q3 hb)
      | (go_at_call 10; (with_reducible (first | refine (SFL.out _).mono ?_ | refine (SFH.out _).mono ?_)); rintro e w6 ⟨rfl, hw⟩; obtain rfl := hw))
    go_ret
    exact ⟨by simp, by first | exact C1.out.b | exact bl_drewN C1.out.b _⟩
end Go.Proofs.YtaedkekjekbjmaaGreatDoor

/- The frame of the rows of this seat: the one listed variable (math/bits' table) as cells; a start that fits. -/
namespace Go.Proofs.YtaedkekjekbjmaaGreatDoor
open Go Go.ChangeShapes Go.WideShapes Go.RowKit GFl
set_option maxRecDepth 100000

theorem Tryz.own : ownKnob Tryz.prog.godebug = none := by kernel_rfl
theorem w64_of {x : Nat} (h : (Lit.float .f64 x).wf = true) : W64 x := W64.mk (by simpa [Lit.wf] using h)
theorem i64_of {x : Int} (h : (Lit.int .i64 x).wf = true) : -9223372036854775808 ≤ x ∧ x ≤ 9223372036854775807 := by simpa [Lit.wf, IntKind.min, IntKind.max, IntKind.signed, IntKind.bits] using h
theorem no_standIn {ps : Array TypeId} {fn : Func} (h : fn.params = ps) (hall : (ps.toList.all fun t => !Tryz.prog.wantsStandIn t) = true) : ∀ (j : Nat) (t : TypeId), fn.params[j]? = some t → Tryz.prog.wantsStandIn t = false := by
  intro j t ht
  rw [h] at ht
  have hm : t ∈ ps.toList := by rw [Array.mem_toList_iff]; exact Array.mem_of_getElem? ht
  have := List.all_eq_true.1 hall t hm
  simpa using this
def tabZs : List Int := Lib.deBruijn64tab.map fun (n : Nat) => (n : Int)
def laidL : List (String × DataW Unit) := [("math/bits.deBruijn64tab", Rows.laid_math_bits_deBruijn64tab)]
theorem laidL_eq : laidL = ("math/bits.deBruijn64tab", Lib.tabData .u8 tabZs) :: [] := by kernel_rfl
theorem tab_named : Tryz.prog.globalNamed "math/bits.deBruijn64tab" = some 1 := by kernel_rfl
theorem tab_type : (Tryz.prog.globals[1]?).map (·.type) = some 107 := by kernel_rfl
theorem tab_of_laid {W : World} (h : laidMet Tryz.prog laidL W) : Tab W := by
  rw [laidL_eq] at h
  have ht := Lib.tabIs_of_head tab_named tab_type Tryz.underlying107 Tryz.underlying5 (by kernel_rfl) (by kernel_rfl) h
  intro j hj
  have hc := ht.cell tab_named j (by simpa [tabZs] using hj)
  rw [hc]
  congr 2
  simp [tabZs, List.getD, hj]

def tabCells : Array Value := (tabZs.map fun z => Value.int .u8 z).toArray
noncomputable def laidWorld (os : Os) : World :=
  { World.holding Tryz.prog os ⟨#[], #[], []⟩ with heap := (World.holding Tryz.prog os ⟨#[], #[], []⟩).heap.modify 1 fun
      | .cells _ t frozen => .cells tabCells t frozen
      | o => o }
theorem laidWorld_row (os : Os) (args : Array Value) : ((laidWorld os).forCall (fun _ _ => 0) ⟨#[], args, []⟩).memory.heap[1]? = some (.cells tabCells 107 (0, 0)) := by kernel_rfl
theorem tab_places : ((MemPlace.row ⟨1, 0, none⟩ tabCells.size ++ ([] : List MemPlace) ++ []).Nodup) := by decide
theorem laidWorld_met (os : Os) (args : Array Value) : laidMet Tryz.prog laidL ((laidWorld os).forCall (fun _ _ => 0) ⟨#[], args, []⟩).memory := by
  refine ⟨_, ⟨1, 107, tabCells, 8, [], [], by kernel_rfl, by kernel_rfl, by kernel_rfl, by kernel_rfl, rfl, rfl⟩, tab_places, fun b off h => ?_⟩
  have h' : MemPlace.cell b off ∈ (MemPlace.row ⟨1, 0, none⟩ tabCells.size : List MemPlace) := by simpa using h
  have hall : (MemPlace.row ⟨1, 0, none⟩ tabCells.size : List MemPlace).all (fun p => match p with | .cell b _ => b == 1 | _ => false) = true := by decide
  have hb := List.all_eq_true.1 hall _ h'
  obtain rfl : b = 1 := by simpa using hb
  refine ⟨⟨_, _, laidWorld_row os args⟩, fun u v hc => ?_⟩
  exfalso
  simp only [World.cell?, laidWorld_row os args] at hc
  have hc' : tabCells[off]? = some (.iface u v) := by simpa using hc
  unfold tabCells at hc'
  simp at hc'
end Go.Proofs.YtaedkekjekbjmaaGreatDoor

/- Lists of floats, chains and lists of small numbers as arguments of a row: opened. -/
namespace Go.Proofs.YtaedkekjekbjmaaGreatDoor
open Go Go.ChangeShapes Go.WideShapes Go.RowKit Go.Deep GFl
open Go.Proofs.YtaedkekjekbjmaaGreatDoorW.PrintWords (Kd)
set_option maxRecDepth 100000

theorem jk_laidOut : laidOutB Tryz.prog = true := by kernel_rfl
theorem rs_rec2 : Tryz.prog.readableRec 24 = true := by kernel_rfl
theorem rs_row2 : (24 : TypeId) < Tryz.prog.types.size := of_decide_eq_true (by kernel_rfl)
theorem rs_cf : Tryz.prog.cellsOf 28 = 1 := by kernel_rfl
theorem rs_cc : Tryz.prog.cellsOf 24 = 2 := by kernel_rfl
theorem list_of {α : Type} {p : Nat → α → Prop} : ∀ n, (∀ i, i < n → ∃ j, p i j) → ∃ l : List α, l.length = n ∧ ∀ i j, l[i]? = some j → p i j
  | 0, _ => ⟨[], rfl, fun i j h => by simp at h⟩
  | n + 1, h => by
    obtain ⟨l, hl, hp⟩ := list_of n (fun i hi => h i (by omega))
    obtain ⟨j, hj⟩ := h n (by omega)
    refine ⟨l ++ [j], by simp [hl], fun i x hx => ?_⟩
    rcases Nat.lt_or_ge i l.length with hi | hi
    · rw [List.getElem?_append_left hi] at hx; exact hp i x hx
    · rw [List.getElem?_append_right hi] at hx
      have e : i - l.length = 0 := by
        have := (List.getElem?_eq_some_iff.1 hx).1
        simp at this; omega
      rw [e] at hx
      have : x = j := by simpa using hx.symm
      subst this
      have : i = n := by omega
      subst this; exact hj
section
variable {H : Type} {enc : TypeId × Value → H} {P : Program} {w : World} {base : Nat} {spare : Nat → Bool} {held : Bool}
theorem trod_flt {k : FloatKind} {t : TypeId} {fuel : Nat} {cs : List Value} {x : DataW H × List MemPlace} (ht : P.underlying t = some (.float k)) (h : DataW.trod enc P w base spare held fuel t cs = some x) : ∃ n, cs = [.float k n] ∧ (Lit.float k n).wf = true := by
  cases fuel with
  | zero => simp [DataW.trod] at h
  | succ n =>
    unfold DataW.trod at h
    rw [ht] at h
    split at h <;> simp_all
end
section
variable {H : Type} {enc : TypeId × Value → H} {w : World} {base : Nat} {spare : Nat → Bool} {held : Bool}
theorem open_fls {fuel : Nat} {c : Value} {x : DataW H × List MemPlace} (h : DataW.trod enc Tryz.prog w base spare held fuel 22 [c] = some x) :
    ∃ (A : Option Addr) (cap : Nat) (l : List Nat), c = .slice A l.length cap ∧ l.length ≤ cap ∧ Fl w A l ∧ (∀ y ∈ l, W64 y) ∧ (A = none → cap = 0 ∧ l = []) := by
  rcases open_slice1 Tryz.underlying22 rs_cf h with ⟨hc, _⟩ | ⟨ad, len, cap, m, n, V, D, Pl, hc, hb, hl, hm, hmm, _, hi⟩
  · have hc : c = .slice none 0 0 := by simpa using hc
    subst hc
    exact ⟨none, 0, [], rfl, Nat.le_refl _, Fl.mk (by simp) (fun h => by simp at h), fun y hy => (by cases hy), fun _ => ⟨rfl, rfl⟩⟩
  · have hc : c = .slice (some ad) len cap := by simpa using hc
    subst hc
    have hlm : len ≤ m := by rw [hmm]; split <;> omega
    obtain ⟨l, hll, hp⟩ := list_of (p := fun i y => w.cell? (ad.add i) = some (.float .f64 y) ∧ W64 y) len (fun i hil => by
      obtain ⟨hc, ht⟩ := hi i (by omega)
      obtain ⟨y, he, hw⟩ := trod_flt Tryz.underlying28 ht
      have he : V i = .float .f64 y := by simpa using he
      exact ⟨y, by rw [hc, he], w64_of hw⟩)
    subst hll
    have hmx : cap ≤ 9223372036854775807 := hm
    refine ⟨some ad, cap, l, rfl, hl, Fl.mk (by omega) (fun _ => ⟨ad, rfl, fun i hi => (hp i _ (List.getElem?_eq_getElem hi)).1⟩), fun y hy => ?_, fun h => by cases h⟩
    obtain ⟨i, hi1, rfl⟩ := List.getElem_of_mem hy
    exact (hp i _ (List.getElem?_eq_getElem hi1)).2
end
end Go.Proofs.YtaedkekjekbjmaaGreatDoor

/- Lists of floats as arguments of a row, with their size. -/
namespace Go.Proofs.YtaedkekjekbjmaaGreatDoor
open Go Go.ChangeShapes Go.WideShapes Go.RowKit Go.Deep GFl
set_option maxRecDepth 100000

theorem rl_bytes : Tryz.prog.bytesOf 28 = 8 := by kernel_rfl
section
variable {H : Type} {enc : TypeId × Value → H} {w : World} {base : Nat} {spare : Nat → Bool} {held : Bool}
end
end Go.Proofs.YtaedkekjekbjmaaGreatDoor

/- A chain as an argument of a row, with its size. -/
namespace Go.Proofs.YtaedkekjekbjmaaGreatDoor
open Go Go.ChangeShapes Go.WideShapes Go.RowKit Go.Deep GFl
set_option maxRecDepth 100000

section
variable {H : Type} {enc : TypeId × Value → H} {w : World} {base : Nat} {spare : Nat → Bool} {held : Bool}
theorem open_lfls {fuel : Nat} {c : Value} {x : DataW H × List MemPlace} (h : DataW.trod enc Tryz.prog w base spare held fuel 22 [c] = some x) :
    ∃ (A : Option Addr) (cap : Nat) (l : List Nat), c = .slice A l.length cap ∧ l.length ≤ cap ∧ Fl w A l ∧ (∀ y ∈ l, W64 y) ∧ (A = none → cap = 0 ∧ l = []) ∧ (l = [] ∨ ∃ E S : List (DataW H), x.1 = .slice E S ∧ E.length = l.length) := by
  obtain ⟨A, c, l, rfl, hl, hC, hw, hN⟩ := open_fls h
  refine ⟨A, c, l, rfl, hl, hC, hw, hN, ?_⟩
  rcases open_slice Tryz.underlying22 h with ⟨hcs, _⟩ | ⟨ad, n, cap, m, k, D, Pl, hcs, hb, hle, hm, hmm, hx, hi⟩
  · simp at hcs
    obtain ⟨_, h0, _⟩ := hcs
    exact Or.inl h0
  · simp at hcs
    obtain ⟨_, hn, _⟩ := hcs
    refine Or.inr ⟨_, _, congrArg Prod.fst hx, ?_⟩
    simp [hn]
theorem open_lchain {r : Reach} {b0 : Nat} {v : Value} {d : DataW H} {p : List MemPlace} (hv : Value.okWide Tryz.prog w r b0 24 v) (h : DataW.Trod enc Tryz.prog w base spare held 24 v d p) :
    ∃ (A B : Option Addr) (cA cB : Nat) (l m : List Nat), v = .agg #[.slice A l.length cA, .slice B m.length cB] ∧ l.length ≤ cA ∧ m.length ≤ cB ∧ Fl w A l ∧ Fl w B m ∧ (∀ y ∈ l, W64 y) ∧ (∀ y ∈ m, W64 y) ∧ (A = none → cA = 0 ∧ l = []) ∧ (B = none → cB = 0 ∧ m = []) ∧
      (l = [] ∨ ∃ (E S : List (DataW H)) (y : DataW H), d = .agg [.slice E S, y] ∧ E.length = l.length) ∧ (m = [] ∨ ∃ (E S : List (DataW H)) (y : DataW H), d = .agg [y, .slice E S] ∧ E.length = m.length) := by
  obtain ⟨cs, rfl, _⟩ := okWide_struct Tryz.underlying24 hv
  obtain ⟨fuel, h⟩ := h
  obtain ⟨xs, n, hd, hx, hlen, hxl, hf⟩ := DataW.trod_struct Tryz.underlying24 h
  rw [rs_cc] at hlen
  obtain ⟨cs⟩ := cs
  change cs.length = 2 at hlen
  match cs, hlen with
  | [c0, c1], _ =>
    have h0 := hf 0 _ rfl
    have h1 := hf 1 _ rfl
    have hs : xs.length = 2 := hxl
    match xs, hs with
    | [y0, y1], _ =>
      have g0 : DataW.trod enc Tryz.prog w base spare held n 22 [c0] = some y0 := h0
      have g1 : DataW.trod enc Tryz.prog w base spare held n 22 [c1] = some y1 := h1
      obtain ⟨A, cA, l, rfl, j1, j2, j3, j4, j5⟩ := open_lfls g0
      obtain ⟨B, cB, m, rfl, k1, k2, k3, k4, k5⟩ := open_lfls g1
      have e : d = .agg [y0.1, y1.1] := by simpa using congrArg Prod.fst hx
      refine ⟨A, B, cA, cB, l, m, rfl, j1, k1, j2, k2, j3, k3, j4, k4, ?_, ?_⟩
      · exact j5.imp id (fun ⟨E, S, a, b⟩ => ⟨E, S, y1.1, by rw [e, a], b⟩)
      · exact k5.imp id (fun ⟨E, S, a, b⟩ => ⟨E, S, y0.1, by rw [e, a], b⟩)
theorem lchain_size0 {ts : List TypeId} {ds : List (DataW H)} {j : Nat} {d : DataW H} {l : List Nat} (hD : l = [] ∨ ∃ (E S : List (DataW H)) (y : DataW H), d = .agg [.slice E S, y] ∧ E.length = l.length) (hsz : (DataW.weightsEach Tryz.prog ts ds).all (· ≤ reachBytes) = true) (ht : ts[j]? = some 24) (hd : ds[j]? = some d) : l.length * 8 ≤ 140737488351232 := by
  rcases hD with rfl | ⟨E, S, y, rfl, hE⟩
  · simp
  · have h1 : (E.length + S.length) * Tryz.prog.bytesOf 28 ∈ (DataW.agg [.slice E S, y]).weights Tryz.prog 24 := by
      simp only [DataW.weights, Tryz.underlying24]
      exact DataW.weights_mem_each (j := 0) (t := 22) rfl rfl _ (by simp [DataW.weights, Tryz.underlying22])
    have h2 := List.all_eq_true.1 hsz _ (DataW.weights_mem_each ht hd _ h1)
    rw [rl_bytes] at h2
    simp only [reachBytes] at h2
    have := of_decide_eq_true h2
    omega
theorem lchain_size1 {ts : List TypeId} {ds : List (DataW H)} {j : Nat} {d : DataW H} {l : List Nat} (hD : l = [] ∨ ∃ (E S : List (DataW H)) (y : DataW H), d = .agg [y, .slice E S] ∧ E.length = l.length) (hsz : (DataW.weightsEach Tryz.prog ts ds).all (· ≤ reachBytes) = true) (ht : ts[j]? = some 24) (hd : ds[j]? = some d) : l.length * 8 ≤ 140737488351232 := by
  rcases hD with rfl | ⟨E, S, y, rfl, hE⟩
  · simp
  · have h1 : (E.length + S.length) * Tryz.prog.bytesOf 28 ∈ (DataW.agg [y, .slice E S]).weights Tryz.prog 24 := by
      simp only [DataW.weights, Tryz.underlying24]
      exact DataW.weights_mem_each (j := 1) (t := 22) rfl rfl _ (by simp [DataW.weights, Tryz.underlying22])
    have h2 := List.all_eq_true.1 hsz _ (DataW.weights_mem_each ht hd _ h1)
    rw [rl_bytes] at h2
    simp only [reachBytes] at h2
    have := of_decide_eq_true h2
    omega
end
end Go.Proofs.YtaedkekjekbjmaaGreatDoor
