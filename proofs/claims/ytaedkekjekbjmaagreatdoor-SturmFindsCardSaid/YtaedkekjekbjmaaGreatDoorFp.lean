import Derived.Test.YtaedkekjekbjmaaGreatDoorFo
import Derived.Test.YtaedkekjekbjmaaGreatDoorFk
import Derived.Deep.RegionHeld3
import Derived.Deep.DeepCutAuto
import Derived.Deep.CutBlock
import Derived.Test.YtaedkekjekbjmaaGreatDoorFj
/- sturm.Count. -/
namespace Go.Proofs.YtaedkekjekbjmaaGreatDoor
open Go Go.RowKit Nv GFl Ieee
set_option maxRecDepth 100000
set_option linter.unusedSimpArgs false

def countN (d o : List Nat) (x : Nat) : Int := if wrongE d o x = 0 then cntF x d o else 0
/-- What one row's pivot needs. -/
theorem piv_ok {a x : Nat} (ha : Cf a) (hx : W64 x) (h2 : rg x ≤ 6867989431740006400) : double.sub a x = some (fsub a x) ∧ Nn (fsub a x) ∧ rg (fsub a x) < 9218868437227405312 := by
  obtain ⟨z, e, hz, hb⟩ := sub_fin ha.w hx (Nat.le_trans ha.r (by decide)) h2
  rw [fsub_of e]
  exact ⟨e, hz, Nat.lt_of_le_of_lt hb (by decide)⟩
theorem sq_ok {b : Nat} (hb : Cf b) : double.mul b b = some (fmul b b) ∧ W64 (fmul b b) ∧ neg (fmul b b) = false ∧ rg (fmul b b) < 9218868437227405312 := by
  obtain ⟨z, e, hz, hn, hr⟩ := sq_fin hb.w hb.r
  rw [fmul_of e]
  exact ⟨e, hz, hn, Nat.lt_of_le_of_lt hr (by decide)⟩
theorem q_ok {b d : Nat} (hb : Cf b) (hd : Nn d) (h0 : rg d ≠ 0) : double.div (fmul b b) d = some (fdiv (fmul b b) d) ∧ Nn (fdiv (fmul b b) d) := by
  obtain ⟨_, h1, _, h2⟩ := sq_ok hb
  obtain ⟨z, e, hz⟩ := div_nn h1 h2 hd h0
  rw [fdiv_of e]
  exact ⟨e, hz⟩
theorem piv2_ok {a x b d : Nat} (ha : Cf a) (hx : W64 x) (h2 : rg x ≤ 6867989431740006400) (hb : Cf b) (hd : Nn d) (h0 : rg d ≠ 0) : double.sub (fsub a x) (fdiv (fmul b b) d) = some (fsub (fsub a x) (fdiv (fmul b b) d)) ∧ Nn (fsub (fsub a x) (fdiv (fmul b b) d)) := by
  obtain ⟨_, h3, h4⟩ := piv_ok ha hx h2
  obtain ⟨_, h5⟩ := q_ok hb hd h0
  obtain ⟨z, e, hz⟩ := sub_nn h3.w h4 h5
  rw [fsub_of e]
  exact ⟨e, hz⟩
theorem fix_t {n : Nat} (h : Nn n) : (FloatKind.f64.format.order n 0 == some .eq) = decide (rg n = 0) ∧ (FloatKind.f64.format.order (fix n) 0 == some .lt) = neg (fix n) := by
  refine ⟨by rw [Go.Proofs.YtaedkekjekbjmaaGreatDoor.eq0 h.w, h.isn]; simp [plc_zero], ?_⟩
  obtain ⟨h1, h2⟩ := fix_nn h
  rw [Go.Proofs.YtaedkekjekbjmaaGreatDoor.lt0 h1.w, h1.isn]
  rw [Bool.eq_iff_iff]
  simp only [Bool.not_false, Bool.true_and, decide_eq_true_eq]
  rw [plc_lt_zero]
  exact ⟨fun h => h.1, fun h => ⟨h, by omega⟩⟩
/-- What holds at the head of Count's loop. -/
structure CI (W w : World) (d o : List Nat) (x k dv : Nat) (c : Int) : Prop where
  below : Below W.heap.size W w
  nn : 1 ≤ k → Nn dv ∧ rg dv ≠ 0
  c0 : 0 ≤ c
  c1 : c ≤ k
  tot : c + cF x ((cR none d o).drop k) dv = cntF x d o
theorem CI.drew {W w : World} {d o : List Nat} {x k dv : Nat} {c : Int} (h : CI W w d o x k dv c) : CI W w.drew d o x k dv c := ⟨bl_drew h.below, h.nn, h.c0, h.c1, h.tot⟩
set_option maxHeartbeats 8000000 in
theorem count_c (A B : Option Addr) (cA cB : Nat) (d o : List Nat) (x : Nat) (W : World) (hd : Fl W A d) (ho : Fl W B o) (wd : ∀ x ∈ d, W64 x) (wo : ∀ x ∈ o, W64 x) (hx : W64 x) :
    Calls Tryz.prog 11 #[.agg #[.slice A d.length cA, .slice B o.length cB], .float .f64 x] W fun e w' => e = .returned (.tuple #[.int .i64 (countN d o x), .int .i64 (wrongE d o x)]) ∧ Below W.heap.size W w' := by
  have wc : ∀ w, Below W.heap.size W w → Calls Tryz.prog 31 #[.agg #[.slice A d.length cA, .slice B o.length cB], .float .f64 x] w fun e w' => e = .returned (.int .i64 (wrongE d o x)) ∧ Below w.heap.size w w' := fun w h => wrong_c A B cA cB d o x w (hd.below h) (ho.below h) wd wo hx
  have BA := Lib.hid ((Below.refl W.heap.size W).alloc (Nat.le_refl _) (.cells #[.slice A d.length cA, .slice B o.length cB] 24))
  by_cases hw : wrongE d o x = 0
  · have hr : rightB d o = true := by unfold wrongE at hw; by_cases h : rightB d o = true; exact h; rw [if_neg h] at hw; cases hw
    have hx1 : rg x ≤ 6867989431740006400 := by
      unfold wrongE at hw
      rw [if_pos hr] at hw
      apply Classical.byContradiction
      intro h1
      rw [if_pos (show 6867989431740006400 < rg x by omega)] at hw
      split at hw <;> cases hw
    obtain ⟨r1, r2, r3, r4, r5⟩ := rightB_d hr
    have CD : Hid (∀ y ∈ d, Cf y) := Lib.hid (fun y hy => ⟨wd y hy, r4 y hy⟩)
    have CO : Hid (∀ y ∈ o, Cf y) := Lib.hid (fun y hy => ⟨wo y hy, r5 y hy⟩)
    have HD := Lib.hid hd
    have HO := Lib.hid ho
    have HX := Lib.hid hx
    have HX1 := Lib.hid hx1
    have HL : Hid (d.length = o.length + 1) := Lib.hid (by omega)
    have EC : Hid (countN d o x = cntF x d o) := Lib.hid (if_pos hw)
    have EW := Lib.hid hw
    rw [hw] at wc
    have WC := Lib.hid wc
    have hn := r2
    clear wc hw hr hx1 r1 r2 r3 r4 r5 hd ho wd wo hx
    go_enter Tryz.func11, Tryz.ntmps11
    go_wp2_with (first
      | (go_at_call 31; (with_reducible refine (WC.out _ BA.out).mono ?_); rintro e w1 ⟨rfl, hb⟩
         have hblk : w1.heap[W.heap.size]? = _ := kb_new hb
         have HBK := Lib.hid hblk
         have cc0 := kb_cell hblk (i := 0) rfl
         have cc1 := kb_cell hblk (i := 1) rfl
         have HB := Lib.hid (BA.out.trans (hb.mono (by simp))); clear hb hblk))
    go_loopw [7, 8, 22] (fun v7 v8 v22 wr => ∃ (k dv : Nat) (c : Int), v7 = .int .i64 c ∧ v8 = .float .f64 dv ∧ v22 = .int .i64 k ∧ k ≤ d.length ∧ Hid (CI W wr d o x k dv c ∧ Below w1.heap.size w1 wr)) (fun _ _ v _ => d.length - (intOf v).toNat)
    case atStart => exact ⟨0, 0, 0, rfl, rfl, rfl, Nat.zero_le _, Lib.hid ⟨⟨HB.out, fun h => absurd h (by decide), by decide, by decide, by simp [cntF]⟩, Below.refl _ _⟩⟩
    case round =>
      obtain ⟨k, dv, c, rfl, rfl, rfl, hk, hq⟩ := hrel
      clear cc0 cc1
      by_cases hlt : k < d.length
      · have l1 : decide (k < d.length) = true := decide_eq_true hlt
        have cx := CD.out _ (List.getElem_mem hlt)
        obtain ⟨ad, hA, hc⟩ := HD.out.at hlt
        subst hA
        have hcell : wr.cell? (ad.add k) = some (.float .f64 d[k]) := (hq.out.1.below.cell (World.block_lt_of_cell? W _ hc)).trans hc
        obtain ⟨y, hy0, hy1, hrow⟩ := cR_drop k d none o hlt HL.out
        have hb2 : wr.heap[W.heap.size]? = _ := kb_keep hq.out.2 HBK.out
        have cc0 := kb_cell hb2 (i := 0) rfl
        have cc1 := kb_cell hb2 (i := 1) rfl
        have HBK2 := Lib.hid hb2
        obtain ⟨p1, p2, p3⟩ := piv_ok cx HX.out HX1.out
        obtain ⟨Z, hZ⟩ : ∃ Z, fsub d[k] x = Z := ⟨_, rfl⟩
        have s0 : ∀ t w, (binOp .sub t (.float .f64 d[k]) (.float .f64 x)).run Tryz.prog w = .ok (.float .f64 Z) w := fun t w => run_float_arith w .sub t .f64 _ _ Z (by rw [← hZ]; exact p1)
        have CX := Lib.hid cx
        have HROW := Lib.hid hrow
        have HY0 := Lib.hid hy0
        have HY1 := Lib.hid hy1
        have HZ1 := Lib.hid hZ
        clear cx hrow hy0 hy1 hc hb2 hZ p1
        rcases Nat.eq_zero_or_pos k with h0 | h0
        · have l3 : decide (0 < k) = false := decide_eq_false (by omega)
          obtain ⟨P, hP⟩ : ∃ P, P = Z := ⟨_, rfl⟩
          have PN : Hid (Nn P) := Lib.hid (by rw [hP, ← HZ1.out]; exact p2)
          have PV : Hid (piv x d[k] y dv = P) := Lib.hid (by rw [HY0.out h0, hP, ← HZ1.out]; rfl)
          subst hP
          clear p2 p3 HZ1 h0
          have c0 := hq.out.1.c0
          have c1 : c ≤ 64 := by have := hq.out.1.c1; omega
          have NX : Hid (∀ c', c' = c + (if neg (fix P) then 1 else 0) → CI W wr d o x (k + 1) (fix P) c') := Lib.hid (fun c' hc' => ⟨hq.out.1.below, fun _ => fix_nn PN.out, by rw [hc']; have := hq.out.1.c0; split <;> omega, by rw [hc']; have := hq.out.1.c1; split <;> omega, by
            have h1 := hq.out.1.tot
            rw [HROW.out, cF_cons, PV.out] at h1
            rw [hc']; omega⟩)
          have TB := Lib.hid hq.out.2
          obtain ⟨t1, t2⟩ := fix_t PN.out
          clear hq
          by_cases hz : rg P = 0
          · have ef : fix P = 9223372036854775809 := if_pos hz
            rw [decide_eq_true hz] at t1
            have t3 : (FloatKind.f64.format.order 9223372036854775809 0 == some .lt) = true := by decide
            have HZ := Lib.hid hz
            have EF := Lib.hid ef
            have NX2 := Lib.hid (NX.out (c + 1) (by rw [EF.out, if_pos (show neg 9223372036854775809 = true by decide)]))
            clear hz ef t2 NX
            go_wp2
            go_roundw
            case rel => exact ⟨k + 1, fix P, c + 1, rfl, by rw [EF.out], by go_num, by omega, Lib.hid ⟨NX2.out, TB.out⟩⟩
            case measure => simp [intOf]; omega
          · have ef : fix P = P := if_neg hz
            rw [decide_eq_false hz] at t1
            rw [ef] at t2
            have EF := Lib.hid ef
            cases hs : neg P
            all_goals
              rw [hs] at t2
              have NX2 := Lib.hid (NX.out _ rfl)
              rw [EF.out, hs] at NX2
              clear ef hz hs
              go_wp2
              go_roundw
              case rel => exact ⟨k + 1, P, _, rfl, rfl, by go_num, by omega, Lib.hid ⟨by simpa using NX2.out, TB.out⟩⟩
              case measure => simp [intOf]; omega
        · obtain ⟨j, rfl⟩ : ∃ j, k = j + 1 := ⟨k - 1, by omega⟩
          have l3 : decide (0 < j + 1) = true := decide_eq_true (by omega)
          have l1' : decide ((j : Int) + 1 < (d.length : Int)) = true := decide_eq_true (by omega)
          have hcell' : wr.cell? ⟨ad.block, ad.off + (j + 1), none⟩ = some (.float .f64 d[j + 1]) := by have := hcell; simpa [Addr.add] using this
          obtain ⟨hjo, hy⟩ := HY1.out (by omega)
          have hjo : j < o.length := hjo
          have hyo : y = some o[j] := hy
          have co1 := CO.out _ (List.getElem_mem hjo)
          obtain ⟨bd, hB, hc⟩ := HO.out.at hjo
          subst hB
          have hcell2 : wr.cell? (bd.add j) = some (.float .f64 o[j]) := (hq.out.1.below.cell (World.block_lt_of_cell? W _ hc)).trans hc
          have dn := hq.out.1.nn (by omega)
          obtain ⟨a1, a2, a3, a4⟩ := sq_ok co1
          obtain ⟨b1, b2⟩ := q_ok co1 dn.1 dn.2
          obtain ⟨e1, e2⟩ := piv2_ok CX.out HX.out HX1.out co1 dn.1 dn.2
          obtain ⟨Q, hQ⟩ : ∃ Q, fmul o[j] o[j] = Q := ⟨_, rfl⟩
          obtain ⟨R, hR⟩ : ∃ R, fdiv Q dv = R := ⟨_, rfl⟩
          obtain ⟨P, hP⟩ : ∃ P, fsub Z R = P := ⟨_, rfl⟩
          have pv : piv x d[j + 1] y dv = P := by
            rw [hyo]
            show fsub (fsub d[j + 1] x) (fdiv (fmul o[j] o[j]) dv) = P
            rw [HZ1.out, hQ, hR, hP]
          rw [HZ1.out, hQ, hR, hP] at e1 e2
          rw [hQ] at a1 b1
          rw [hR] at b1
          have s1 : ∀ t w, (binOp .mul t (.float .f64 o[j]) (.float .f64 o[j])).run Tryz.prog w = .ok (.float .f64 Q) w := fun t w => run_float_arith w .mul t .f64 _ _ Q a1
          have s2 : ∀ t w, (binOp .quo t (.float .f64 Q) (.float .f64 dv)).run Tryz.prog w = .ok (.float .f64 R) w := fun t w => run_float_arith w .quo t .f64 _ _ R b1
          have s3 : ∀ t w, (binOp .sub t (.float .f64 Z) (.float .f64 R)).run Tryz.prog w = .ok (.float .f64 P) w := fun t w => run_float_arith w .sub t .f64 _ _ P e1
          have PN := Lib.hid e2
          have PV := Lib.hid pv
          have i0 : (0 : Int) ≤ (j : Int) := by omega
          have i1 : (j : Int) < (o.length : Int) := by omega
          have i2 : IntKind.i64.wrap ((j : Int) + 1 - 1) = (j : Int) := by rw [IntKind.wrap_i64]; omega
          have i3 : IntKind.i64.wrap ((j : Int)) = (j : Int) := by rw [IntKind.wrap_i64]; omega
          clear hy hyo co1 hc dn a1 a2 a3 a4 b1 b2 e1 e2 hQ hR hP pv p2 p3 HZ1 HY0 HY1 h0
          have c0 := hq.out.1.c0
          have c1 : c ≤ 64 := by have := hq.out.1.c1; omega
          have NX : Hid (∀ c', c' = c + (if neg (fix P) then 1 else 0) → CI W wr d o x (j + 1 + 1) (fix P) c') := Lib.hid (fun c' hc' => ⟨hq.out.1.below, fun _ => fix_nn PN.out, by rw [hc']; have := hq.out.1.c0; split <;> omega, by rw [hc']; have := hq.out.1.c1; split <;> omega, by
            have h1 := hq.out.1.tot
            rw [HROW.out, cF_cons, PV.out] at h1
            rw [hc']; omega⟩)
          have TB := Lib.hid hq.out.2
          obtain ⟨t1, t2⟩ := fix_t PN.out
          clear hq
          by_cases hz : rg P = 0
          · have ef : fix P = 9223372036854775809 := if_pos hz
            rw [decide_eq_true hz] at t1
            have t3 : (FloatKind.f64.format.order 9223372036854775809 0 == some .lt) = true := by decide
            have HZ := Lib.hid hz
            have EF := Lib.hid ef
            have NX2 := Lib.hid (NX.out (c + 1) (by rw [EF.out, if_pos (show neg 9223372036854775809 = true by decide)]))
            clear hz ef t2 NX
            go_wp2
            go_region_held3 (fun w' => w'.cell? ⟨W.heap.size, 0, none⟩ = some (.slice (some ad) d.length cA) ∧ w'.cell? ⟨W.heap.size, 1, none⟩ = some (.slice (some bd) o.length cB) ∧ w'.cell? (bd.add j) = some (.float .f64 o[j])) (go_keep) (fail)
            go_wp2
            go_roundw
            case rel => exact ⟨j + 1 + 1, fix P, c + 1, rfl, by rw [EF.out], by go_num, by omega, Lib.hid ⟨NX2.out.drew, bl_drew TB.out⟩⟩
            case measure => simp [intOf]; omega
          · have ef : fix P = P := if_neg hz
            rw [decide_eq_false hz] at t1
            rw [ef] at t2
            have EF := Lib.hid ef
            cases hs : neg P
            all_goals
              rw [hs] at t2
              have NX2 := Lib.hid (NX.out _ rfl)
              rw [EF.out, hs] at NX2
              clear ef hz hs
              go_wp2
              go_region_held3 (fun w' => w'.cell? ⟨W.heap.size, 0, none⟩ = some (.slice (some ad) d.length cA) ∧ w'.cell? ⟨W.heap.size, 1, none⟩ = some (.slice (some bd) o.length cB) ∧ w'.cell? (bd.add j) = some (.float .f64 o[j])) (go_keep) (fail)
              go_wp2
              go_roundw
              case rel => exact ⟨j + 1 + 1, P, _, rfl, rfl, by go_num, by omega, Lib.hid ⟨by simpa using NX2.out.drew, bl_drew TB.out⟩⟩
              case measure => simp [intOf]; omega
      · have l1 : decide (k < d.length) = false := decide_eq_false hlt
        have fin : c = cntF x d o := by
          have h1 := hq.out.1.tot
          rw [List.drop_eq_nil_iff.2 (by rw [cR_len]; omega)] at h1
          rw [← h1]; simp [cF]
        have FIN := Lib.hid fin
        have BL := Lib.hid hq.out.1.below
        clear fin hq
        go_wp2
        go_ret2
        exact ⟨ret_int_int (by rw [EC.out, FIN.out]) EW.out.symm, BL.out⟩
  · have e0 : countN d o x = 0 := if_neg hw
    have k0 : (wrongE d o x != 0) = true := by simpa using hw
    obtain ⟨E, hE⟩ : ∃ E, wrongE d o x = E := ⟨_, rfl⟩
    rw [hE] at wc k0
    rw [hE]
    have WC := Lib.hid wc
    have E0 := Lib.hid e0
    clear wc hw hd ho wd wo hx e0 hE
    go_enter Tryz.func11, Tryz.ntmps11
    go_wp2_with (first
      | (go_at_call 31; (with_reducible refine (WC.out _ BA.out).mono ?_); rintro e w1 ⟨rfl, hb⟩; have HB := Lib.hid (BA.out.trans (hb.mono (by simp))); clear hb))
    go_ret2
    exact ⟨ret_int_int E0.out.symm rfl, HB.out⟩
end Go.Proofs.YtaedkekjekbjmaaGreatDoor

/- sturm.Chord: what is refused. -/
namespace Go.Proofs.YtaedkekjekbjmaaGreatDoor
open Go Go.RowKit Nv GFl Ieee
open Go.Proofs.YtaedkekjekbjmaaGreatDoorW.PrintWords (own_move own_ne own_lt print_append_cells)
set_option maxRecDepth 100000
set_option linter.unusedSimpArgs false

def finB (x : Nat) : Bool := decide (rg x < 9218868437227405312)
def btwB (x : Nat) : Bool := !isn x && decide (4336966441157787648 ≤ plc x) && decide (plc x ≤ 4877398396442247168)
def pshB (x : Nat) : Bool := !isn x && decide (0 ≤ plc x) && decide (plc x ≤ 4877398396442247168)
theorem between_c (x : Nat) (hx : W64 x) (w : World) : Calls Tryz.prog 47 #[.float .f64 x] w fun e w' => e = .returned (.bool (btwB x)) ∧ w = w' := by
  have t1 := t_ge hx (w_const (by decide) : W64 4336966441157787648)
  have t2 := t_le hx (w_const (by decide) : W64 4877398396442247168)
  have e1 : isn 4336966441157787648 = false := by decide
  have e2 : plc 4336966441157787648 = 4336966441157787648 := by decide
  have e3 : isn 4877398396442247168 = false := by decide
  have e4 : plc 4877398396442247168 = 4877398396442247168 := by decide
  rw [e1, e2] at t1
  rw [e3, e4] at t2
  have T : Hid ((FloatKind.f64.format.order x 4336966441157787648 == some .gt || FloatKind.f64.format.order x 4336966441157787648 == some .eq) = (!isn x && decide (4336966441157787648 ≤ plc x))) := Lib.hid (by rw [t1]; simp)
  have T2 : Hid ((FloatKind.f64.format.order x 4877398396442247168 == some .lt || FloatKind.f64.format.order x 4877398396442247168 == some .eq) = (!isn x && decide (plc x ≤ 4877398396442247168))) := Lib.hid (by rw [t2]; simp)
  have B : Hid (btwB x = ((!isn x && decide (4336966441157787648 ≤ plc x)) && (!isn x && decide (plc x ≤ 4877398396442247168)))) := Lib.hid (by unfold btwB; cases isn x <;> simp)
  clear t1 t2 e1 e2 e3 e4 hx
  obtain ⟨p, hp⟩ : ∃ p, (!isn x && decide (4336966441157787648 ≤ plc x)) = p := ⟨_, rfl⟩
  obtain ⟨q, hq⟩ : ∃ q, (!isn x && decide (plc x ≤ 4877398396442247168)) = q := ⟨_, rfl⟩
  rw [hp] at T B
  rw [hq] at T2 B
  clear hp hq
  have t1 := T.out
  have t2 := T2.out
  cases p
  all_goals
    have T1 := Lib.hid T
    cases q
    all_goals
      have B2 := Lib.hid B.out
      clear T T2 T1 B
      go_enter Tryz.func47, Tryz.ntmps47
      go_wp2
      go_ret
      exact ⟨ret_bool B2.out.symm, rfl⟩
def shpB (p l : List Nat) : Bool := decide (1 ≤ p.length ∧ p.length ≤ 64 ∧ l.length = p.length + 1)
def cfin (p l : List Nat) (s : Nat) : Bool := finB s && p.all finB && l.all finB
def cgood (p l : List Nat) (s : Nat) : Bool := pshB s && p.all btwB && l.all btwB
def chordE (p l : List Nat) (s : Nat) : Int := if shpB p l = true then (if cfin p l s = true then (if cgood p l s = true then 0 else 2) else 5) else 4
theorem fin_sub {x : Nat} (hx : W64 x) (h : finB x = true) : ∀ (t : TypeId) w, (binOp .sub t (.float .f64 x) (.float .f64 x)).run Tryz.prog w = .ok (.float .f64 0) w := fun t w => run_float_arith w .sub t .f64 x x 0 (sub_self_fin hx (by unfold finB at h; simpa using h))
theorem nofin_sub {x : Nat} (hx : W64 x) (h : finB x = false) : floatBits .sub .f64 x x = none := sub_self_no hx (by unfold finB at h; simpa using h)
theorem nan_eq {x : Nat} (h1 : FloatKind.f64.format.infRung < x % FloatKind.f64.format.signWeight) (h2 : x < 2 ^ FloatKind.f64.format.width) : (FloatKind.f64.format.order x 0 == some .eq) = false := by
  have hw : W64 x := h2
  have hn : isn x = true := by unfold isn nan; exact decide_eq_true h1
  rw [t_eq hw (w_const (by decide)), hn]; rfl
theorem all_snoc {p : Nat → Bool} {l : List Nat} {k : Nat} (hk : k < l.length) : (l.take (k + 1)).all p = ((l.take k).all p && p l[k]) := by
  rw [List.take_succ_eq_append_getElem hk, List.all_append]; simp
/-- The first n of a chord's diagonal, of what couples. -/
def chDk (p l : List Nat) (s n : Nat) : List Nat := (List.range n).map fun i => fsub (p.getD i 0) (fadd (fdiv s (l.getD i 0)) (fdiv s (l.getD (i + 1) 0)))
def chOk (l : List Nat) (s n : Nat) : List Nat := (List.range n).map fun i => fdiv s (l.getD (i + 1) 0)
def chD (p l : List Nat) (s : Nat) : List Nat := if chordE p l s = 0 then chDk p l s p.length else []
def chO (p l : List Nat) (s : Nat) : List Nat := if chordE p l s = 0 then chOk l s (p.length - 1) else []
theorem chDk_succ (p l : List Nat) (s n : Nat) : chDk p l s (n + 1) = chDk p l s n ++ [fsub (p.getD n 0) (fadd (fdiv s (l.getD n 0)) (fdiv s (l.getD (n + 1) 0)))] := by unfold chDk; rw [List.range_succ, List.map_append]; rfl
theorem chOk_succ (l : List Nat) (s n : Nat) : chOk l s (n + 1) = chOk l s n ++ [fdiv s (l.getD (n + 1) 0)] := by unfold chOk; rw [List.range_succ, List.map_append]; rfl
theorem chDk_len (p l : List Nat) (s n : Nat) : (chDk p l s n).length = n := by unfold chDk; simp
theorem chOk_len (l : List Nat) (s n : Nat) : (chOk l s n).length = n := by unfold chOk; simp
abbrev Ow (w : World) (B : Nat) (v : Value) (l : List Nat) : Prop := w.ownsRow B 28 1 v l.length (l.map (Value.float .f64))
def ChP (W : World) (p l : List Nat) (s : Nat) (e : Ending) (w' : World) : Prop := ∃ vD vO, e = .returned (.tuple #[.agg #[vD, vO], .int .i64 (chordE p l s)]) ∧ Ow w' W.heap.size vD (chD p l s) ∧ Ow w' W.heap.size vO (chO p l s) ∧ Below W.heap.size W w'
theorem ChP.none_ {W : World} {p l : List Nat} {s : Nat} {w' : World} (h : chordE p l s ≠ 0) (hb : Below W.heap.size W w') : ChP W p l s (.returned (.tuple #[.agg #[.slice none 0 0, .slice none 0 0], .int .i64 (chordE p l s)])) w' := by
  refine ⟨_, _, rfl, ?_, ?_, hb⟩
  · unfold chD; rw [if_neg h]; exact World.ownsRow_nil w' _ _ _
  · unfold chO; rw [if_neg h]; exact World.ownsRow_nil w' _ _ _
/-- How the two answers stand behind so many lists. -/
def fk (p l : List Nat) (s k : Nat) : Bool := finB s && (decide (k < 1) || p.all finB) && (decide (k < 2) || l.all finB)
def gk (p l : List Nat) (s k : Nat) : Bool := pshB s && (decide (k < 1) || p.all btwB) && (decide (k < 2) || l.all btwB)
set_option maxHeartbeats 8000000 in
theorem chord_no (A B : Option Addr) (cA cB : Nat) (p l : List Nat) (s : Nat) (W : World) (hp : Fl W A p) (hl : Fl W B l) (h : shpB p l = false) :
    Calls Tryz.prog 32 #[.slice A p.length cA, .slice B l.length cB, .float .f64 s] W (ChP W p l s) := by
  have ne : chordE p l s = 4 := by unfold chordE; rw [if_neg (by rw [h]; simp)]
  have l1 := hp.2.1
  have l2 := hl.2.1
  have NE := Lib.hid ne
  have fin : ∀ w', Below W.heap.size W w' → ChP W p l s (.returned (.tuple #[.agg #[.slice none 0 0, .slice none 0 0], .int .i64 4])) w' := fun w' hb => by
    have := ChP.none_ (W := W) (p := p) (l := l) (s := s) (w' := w') (by rw [ne]; decide) hb
    rw [ne] at this
    exact this
  have FIN := Lib.hid fin
  unfold shpB at h
  clear ne fin hp hl
  by_cases h1 : p.length < 1
  · have k1 : decide (p.length < 1) = true := decide_eq_true h1
    have k2 : decide ((p.length : Int) < 1) = true := decide_eq_true (by omega)
    clear h
    go_enter Tryz.func32, Tryz.ntmps32
    go_wp2
    exact bodyPost_ret (v := .tuple #[.agg #[.slice none 0 0, .slice none 0 0], .int .i64 4]) (by simp [results, Tryz.results32, go_sem]) rfl (FIN.out _ (by repeat' (first | (with_reducible exact Below.refl _ _) | (with_reducible refine bl_alloc ?_ _) | (with_reducible refine bl_drewN ?_ _) | (with_reducible refine bl_drew ?_) | (with_reducible refine bl_set ?_ _ (by simp)))))
  · have k1 : decide (p.length < 1) = false := decide_eq_false h1
    have k2 : decide ((p.length : Int) < 1) = false := decide_eq_false (by omega)
    by_cases h2 : 64 < p.length
    · have k3 : decide (64 < p.length) = true := decide_eq_true h2
      have k4 : decide ((64 : Int) < (p.length : Int)) = true := decide_eq_true (by omega)
      clear h
      go_enter Tryz.func32, Tryz.ntmps32
      go_wp2
      exact bodyPost_ret (v := .tuple #[.agg #[.slice none 0 0, .slice none 0 0], .int .i64 4]) (by simp [results, Tryz.results32, go_sem]) rfl (FIN.out _ (by repeat' (first | (with_reducible exact Below.refl _ _) | (with_reducible refine bl_alloc ?_ _) | (with_reducible refine bl_drewN ?_ _) | (with_reducible refine bl_drew ?_) | (with_reducible refine bl_set ?_ _ (by simp)))))
    · have k3 : decide (64 < p.length) = false := decide_eq_false h2
      have k4 : decide ((64 : Int) < (p.length : Int)) = false := decide_eq_false (by omega)
      have k5 : ((l.length : Int) != (p.length : Int) + 1) = true := by simp at h ⊢; omega
      clear h
      go_enter Tryz.func32, Tryz.ntmps32
      go_wp2
      exact bodyPost_ret (v := .tuple #[.agg #[.slice none 0 0, .slice none 0 0], .int .i64 4]) (by simp [results, Tryz.results32, go_sem]) rfl (FIN.out _ (by repeat' (first | (with_reducible exact Below.refl _ _) | (with_reducible refine bl_alloc ?_ _) | (with_reducible refine bl_drewN ?_ _) | (with_reducible refine bl_drew ?_) | (with_reducible refine bl_set ?_ _ (by simp)))))
/-- The world while the lists are looked at. -/
structure CW (W w : World) : Prop where
  b : Below W.heap.size W w
  r : w.heap[W.heap.size]? = some (.cells #[.slice none 0 0, .slice none 0 0] 24 (0, 0))
theorem CW.drewN {W w : World} (h : CW W w) (n : Nat) : CW W (w.drewN n) := ⟨bl_drewN h.b n, h.r⟩
/-- The chord in the making: its two rows. -/
structure HW (W w : World) (bq : Nat) (vD vO : Value) (D O : List Nat) : Prop where
  b : Below W.heap.size W w
  r : w.heap[W.heap.size]? = some (.cells #[.slice none 0 0, .slice none 0 0] 24 (0, 0))
  q : w.heap[bq]? = some (.cells #[vD, vO] 24 (0, 0))
  d : Ow w W.heap.size vD D
  o : Ow w W.heap.size vO O
  sep : ∀ b, vD.ownBlock = some b → vO.ownBlock ≠ some b
  ne : W.heap.size < bq
theorem f_ne : 28 ≠ 24 := by decide
theorem heap_set {w : World} {g : Nat} {cs : Array Value} {t : TypeId} (h : w.heap[g]? = some (.cells cs t (0, 0))) (i : Nat) (u : Value) : (w.setCell ⟨g, i, none⟩ u).heap[g]? = some (.cells (cs.setIfInBounds i u) t (0, 0)) := by
  simp [World.setCell, Array.getElem?_modify, h]
theorem HW.drewN {W w : World} {bq : Nat} {vD vO : Value} {D O : List Nat} (h : HW W w bq vD vO D O) (n : Nat) : HW W (w.drewN n) bq vD vO D O := ⟨bl_drewN h.b n, h.r, h.q, h.d, h.o, h.sep, h.ne⟩
theorem HW.drew {W w : World} {bq : Nat} {vD vO : Value} {D O : List Nat} (h : HW W w bq vD vO D O) : HW W w.drew bq vD vO D O := ⟨bl_drew h.b, h.r, h.q, h.d, h.o, h.sep, h.ne⟩
theorem HW.appD {W w w1 : World} {bq : Nat} {vD vO v1 : Value} {D O : List Nat} {x : Nat} (h : HW W w bq vD vO D O) (hown : w1.ownsRow W.heap.size 28 1 v1 (D.length + 1) (D.map (Value.float .f64) ++ [.float .f64 x])) (hb : Below W.heap.size W w1) (hg : w.grownBy w1 vD.ownBlock)
    (hat : v1.ownBlock = vD.ownBlock ∨ ∃ b, v1.ownBlock = some b ∧ w.heap.size ≤ b) : w1.heap[bq]? = some (.cells #[vD, vO] 24 (0, 0)) ∧ HW W (w1.setCell ⟨bq, 0, none⟩ v1) bq v1 vO (D ++ [x]) O := by
  have q1 : w1.heap[bq]? = some (.cells #[vD, vO] 24 (0, 0)) := (hg.block bq (kb_lt h.q) (own_ne h.d h.q f_ne)).trans h.q
  have r1 : w1.heap[W.heap.size]? = some (.cells #[.slice none 0 0, .slice none 0 0] 24 (0, 0)) := (hg.block _ (kb_lt h.r) (own_ne h.d h.r f_ne)).trans h.r
  have hown2 : Ow w1 W.heap.size v1 (D ++ [x]) := by unfold Ow; rw [List.length_append, List.map_append]; exact hown
  have hne := h.ne
  refine ⟨q1, hb.setCell (p := ⟨bq, 0, none⟩) (Nat.le_of_lt hne) v1, ?_, ?_, ?_, ?_, ?_, hne⟩
  · rw [Below.heap_setCell _ _ _ _ (show W.heap.size ≠ bq by omega)]; exact r1
  · exact heap_set q1 0 v1
  · exact own_move hown2 (fun k hk => Below.heap_setCell _ _ _ _ (fun e => own_ne hown2 q1 f_ne (by rw [hk]; exact congrArg some e.symm)))
  · refine own_move h.o (fun k hk => ?_)
    have hlt := own_lt h.o k hk
    rw [Below.heap_setCell _ _ _ _ (show k ≠ bq from fun e => own_ne h.o h.q f_ne (by rw [hk, e]))]
    exact hg.block k hlt (fun e => h.sep k e.symm hk)
  · intro b hb1 hb2
    rcases hat with hat | ⟨b', hb', hle⟩
    · exact h.sep b (by rw [← hat]; exact hb1) hb2
    · rw [hb'] at hb1
      injection hb1 with hb1
      have := own_lt h.o b hb2
      omega
theorem HW.appO {W w w1 : World} {bq : Nat} {vD vO v1 : Value} {D O : List Nat} {x : Nat} (h : HW W w bq vD vO D O) (hown : w1.ownsRow W.heap.size 28 1 v1 (O.length + 1) (O.map (Value.float .f64) ++ [.float .f64 x])) (hb : Below W.heap.size W w1) (hg : w.grownBy w1 vO.ownBlock)
    (hat : v1.ownBlock = vO.ownBlock ∨ ∃ b, v1.ownBlock = some b ∧ w.heap.size ≤ b) : w1.heap[bq]? = some (.cells #[vD, vO] 24 (0, 0)) ∧ HW W (w1.setCell ⟨bq, 1, none⟩ v1) bq vD v1 D (O ++ [x]) := by
  have q1 : w1.heap[bq]? = some (.cells #[vD, vO] 24 (0, 0)) := (hg.block bq (kb_lt h.q) (own_ne h.o h.q f_ne)).trans h.q
  have r1 : w1.heap[W.heap.size]? = some (.cells #[.slice none 0 0, .slice none 0 0] 24 (0, 0)) := (hg.block _ (kb_lt h.r) (own_ne h.o h.r f_ne)).trans h.r
  have hown2 : Ow w1 W.heap.size v1 (O ++ [x]) := by unfold Ow; rw [List.length_append, List.map_append]; exact hown
  have hne := h.ne
  refine ⟨q1, hb.setCell (p := ⟨bq, 1, none⟩) (Nat.le_of_lt hne) v1, ?_, ?_, ?_, ?_, ?_, hne⟩
  · rw [Below.heap_setCell _ _ _ _ (show W.heap.size ≠ bq by omega)]; exact r1
  · exact heap_set q1 1 v1
  · refine own_move h.d (fun k hk => ?_)
    have hlt := own_lt h.d k hk
    rw [Below.heap_setCell _ _ _ _ (show k ≠ bq from fun e => own_ne h.d h.q f_ne (by rw [hk, e]))]
    exact hg.block k hlt (fun e => h.sep k hk e.symm)
  · exact own_move hown2 (fun k hk => Below.heap_setCell _ _ _ _ (fun e => own_ne hown2 q1 f_ne (by rw [hk]; exact congrArg some e.symm)))
  · intro b hb1 hb2
    rcases hat with hat | ⟨b', hb', hle⟩
    · exact h.sep b hb1 (by rw [← hat]; exact hb2)
    · rw [hb'] at hb2
      injection hb2 with hb2
      have := own_lt h.d b hb1
      omega
theorem mapf_reps (l : List Nat) : Go.Proofs.YtaedkekjekbjmaaGreatDoorW.PrintWords.Reps (fun x cs => cs = [Value.float .f64 x]) 1 l (l.map (Value.float .f64)) := by
  refine ⟨by simp, fun j p hp => ?_⟩
  have hj := (List.getElem?_eq_some_iff.1 hp).1
  have hv := (List.getElem?_eq_some_iff.1 hp).2
  rw [Nat.mul_one, ← List.map_drop, ← List.map_take, List.drop_eq_getElem_cons hj, hv]; rfl
theorem ow_sl {w : World} {B : Nat} {v : Value} {l : List Nat} (h : Ow w B v l) : ∃ A c, v = .slice A l.length c ∧ l.length ≤ c ∧ Fl w A l :=
  Go.Proofs.YtaedkekjekbjmaaGreatDoorW.PrintWords.OwnRow.reads ⟨_, h, mapf_reps l⟩
theorem btw_of {x : Nat} (hx : W64 x) (h : btwB x = true) : Bt x := by
  unfold btwB at h
  simp only [Bool.and_eq_true, Bool.not_eq_true', decide_eq_true_eq] at h
  obtain ⟨⟨h1, h2⟩, h3⟩ := h
  have hn : neg x = false := by
    cases hn : neg x
    · rfl
    · rw [plc_eq, hn] at h2; simp at h2; omega
  rw [plc_eq, hn] at h2 h3
  simp at h2 h3
  exact ⟨hx, hn, by omega, by omega⟩
theorem psh_of {x : Nat} (hx : W64 x) (h : pshB x = true) : Ps x := by
  unfold pshB at h
  simp only [Bool.and_eq_true, Bool.not_eq_true', decide_eq_true_eq] at h
  obtain ⟨⟨h1, h2⟩, h3⟩ := h
  have e : plc x = rg x := by
    rw [plc_eq] at h2 ⊢
    cases hn : neg x
    · simp
    · rw [hn] at h2; simp at h2 ⊢; omega
  rw [e] at h3
  exact ⟨hx, by omega, e⟩
set_option maxHeartbeats 16000000 in
theorem chord_yes (A B : Option Addr) (cA cB : Nat) (p l : List Nat) (s : Nat) (W : World) (hp : Fl W A p) (hl : Fl W B l) (wp : ∀ x ∈ p, W64 x) (wl : ∀ x ∈ l, W64 x) (hs : W64 s) (h : shpB p l = true) :
    Calls Tryz.prog 32 #[.slice A p.length cA, .slice B l.length cB, .float .f64 s] W (ChP W p l s) := by
  have HS := Lib.hid hs
  have HP := Lib.hid hp
  have HL := Lib.hid hl
  have WP := Lib.hid wp
  have WL := Lib.hid wl
  have h2 := h
  unfold shpB at h2
  simp only [decide_eq_true_eq] at h2
  obtain ⟨a1, a2, a3⟩ := h2
  have SH := Lib.hid h
  have k1 : decide (p.length < 1) = false := decide_eq_false (by omega)
  have k2 : decide ((p.length : Int) < 1) = false := decide_eq_false (by omega)
  have k3 : decide (64 < p.length) = false := decide_eq_false (by omega)
  have k4 : decide ((64 : Int) < (p.length : Int)) = false := decide_eq_false (by omega)
  have k5 : ((l.length : Int) != (p.length : Int) + 1) = false := by simp; omega
  have i0 : ∀ w : World, (Instr.index 39 (.agg #[.slice A p.length cA, .slice B l.length cB]) (.int .i64 0)).run Tryz.prog w = .ok (.slice A p.length cA) w := fun _ => by kernel_rfl
  have i1 : ∀ w : World, (Instr.index 39 (.agg #[.slice A p.length cA, .slice B l.length cB]) (.int .i64 1)).run Tryz.prog w = .ok (.slice B l.length cB) w := fun _ => by kernel_rfl
  have HA3 := Lib.hid a3
  have hl65 : l.length ≤ 65 := by omega
  clear hp hl wp wl hs h a3
  go_enter Tryz.func32, Tryz.ntmps32
  go_upto_region 4 with (fail)
  go_cut [9, 10] (fun v9 v10 wx => v9 = .bool (finB s) ∧ v10 = .bool (pshB s) ∧ CW W wx)
  case first =>
    have t1 := t_ge HS.out (w_const (by decide) : W64 0)
    have t2 := t_le HS.out (w_const (by decide) : W64 4877398396442247168)
    rw [show isn 0 = false by decide, show plc 0 = 0 by decide] at t1
    rw [show isn 4877398396442247168 = false by decide, show plc 4877398396442247168 = 4877398396442247168 by decide] at t2
    have T : Hid ((FloatKind.f64.format.order s 0 == some .gt || FloatKind.f64.format.order s 0 == some .eq) = (!isn s && decide (0 ≤ plc s))) := Lib.hid (by rw [t1]; simp)
    have T2 : Hid ((FloatKind.f64.format.order s 4877398396442247168 == some .lt || FloatKind.f64.format.order s 4877398396442247168 == some .eq) = (!isn s && decide (plc s ≤ 4877398396442247168))) := Lib.hid (by rw [t2]; simp)
    have PB : Hid (pshB s = ((!isn s && decide (0 ≤ plc s)) && (!isn s && decide (plc s ≤ 4877398396442247168)))) := Lib.hid (by unfold pshB; cases isn s <;> simp)
    clear t1 t2
    obtain ⟨u, hu⟩ : ∃ u, (!isn s && decide (0 ≤ plc s)) = u := ⟨_, rfl⟩
    obtain ⟨v, hv⟩ : ∃ v, (!isn s && decide (plc s ≤ 4877398396442247168)) = v := ⟨_, rfl⟩
    rw [hu] at T PB
    rw [hv] at T2 PB
    have t1 := T.out
    have t2 := T2.out
    clear hu hv T T2
    cases hf : finB s
    · have s0 := nofin_sub HS.out hf
      have S0 := Lib.hid s0
      have HF := Lib.hid hf
      clear s0 hf
      cases u <;> cases v
      all_goals
        go_wp2_with (first
          | (refine wp_arith .f64 s s rfl rfl rfl ?_; intro r n hr; rw [S0.out] at hr; have t0 := nan_eq hr.1 hr.2; clear hr))
        go_meet
        exact ⟨by rw [HF.out], by rw [PB.out]; rfl, ⟨by repeat' (first | (with_reducible exact Below.refl _ _) | (with_reducible refine bl_alloc ?_ _) | (with_reducible refine bl_drewN ?_ _) | (with_reducible refine bl_drew ?_) | (with_reducible refine bl_set ?_ _ (by simp))), by first | exact kb_new (Below.refl _ _) | exact kb_new (bl_drewN (Below.refl _ _) _)⟩⟩
    · have s0 := fin_sub HS.out hf
      have z0 : (FloatKind.f64.format.order 0 0 == some .eq) = true := by decide
      have HF := Lib.hid hf
      clear hf
      cases u <;> cases v
      all_goals
        go_wp2
        go_meet
        exact ⟨by rw [HF.out], by rw [PB.out]; rfl, ⟨by repeat' (first | (with_reducible exact Below.refl _ _) | (with_reducible refine bl_alloc ?_ _) | (with_reducible refine bl_drewN ?_ _) | (with_reducible refine bl_drew ?_) | (with_reducible refine bl_set ?_ _ (by simp))), by first | exact kb_new (Below.refl _ _) | exact kb_new (bl_drewN (Below.refl _ _) _)⟩⟩
  case rest =>
    obtain ⟨rfl, rfl, hcw⟩ := hcut
    have CW0 := Lib.hid hcw
    clear hcw
    go_wp2
    go_loopw [9, 10, 49] (fun v9 v10 v49 wr => ∃ (k : Nat) (F G : Bool), v9 = .bool F ∧ v10 = .bool G ∧ v49 = .int .i64 k ∧ k ≤ 2 ∧ Hid (F = fk p l s k ∧ G = gk p l s k ∧ CW W wr)) (fun _ _ v _ => 2 - (intOf v).toNat)
    case atStart => exact ⟨0, _, _, rfl, rfl, rfl, by omega, Lib.hid ⟨by unfold fk; simp, by unfold gk; simp, CW0.out⟩⟩
    case round =>
      obtain ⟨k, F, G, rfl, rfl, rfl, hk, hq⟩ := hrel
      have hk3 : k = 0 ∨ k = 1 ∨ k = 2 := by omega
      clear CW0
      rcases hk3 with rfl | rfl | rfl
      · go_wp2
        go_loopw [9, 10, 54] (fun v9 v10 v54 wr2 => ∃ (j : Nat) (F G : Bool), v9 = .bool F ∧ v10 = .bool G ∧ v54 = .int .i64 j ∧ j ≤ p.length ∧ Hid (F = (fk p l s 0 && (p.take j).all finB) ∧ G = (gk p l s 0 && (p.take j).all btwB) ∧ CW W wr2)) (fun _ _ v _ => p.length - (intOf v).toNat)
        case atStart => exact ⟨0, F, G, rfl, rfl, rfl, Nat.zero_le _, Lib.hid ⟨by rw [hq.out.1]; simp, by rw [hq.out.2.1]; simp, hq.out.2.2⟩⟩
        case round =>
          obtain ⟨j, F, G, rfl, rfl, rfl, hj, hr⟩ := hrel
          clear hq
          by_cases hlt : j < p.length
          · obtain ⟨ad, hA, hc⟩ := HP.out.at hlt
            subst hA
            have hcell : wr.cell? (ad.add j) = some (.float .f64 p[j]) := (hr.out.2.2.b.cell (World.block_lt_of_cell? W _ hc)).trans hc
            have l1 : decide (j < p.length) = true := decide_eq_true hlt
            have hx := WP.out _ (List.getElem_mem hlt)
            have bc := between_c p[j] hx
            have HX := Lib.hid hx
            have RR : Hid (∀ wr' F' G', F' = (F && finB p[j]) → G' = (G && btwB p[j]) → CW W wr' → (F' = (fk p l s 0 && (p.take (j + 1)).all finB) ∧ G' = (gk p l s 0 && (p.take (j + 1)).all btwB) ∧ CW W wr')) := Lib.hid (fun wr' F' G' h1 h2 h3 => ⟨by rw [h1, all_snoc hlt, hr.out.1, Bool.and_assoc], by rw [h2, all_snoc hlt, hr.out.2.1, Bool.and_assoc], h3⟩)
            have CWH := Lib.hid hr.out.2.2
            obtain ⟨T, hT⟩ : ∃ T, btwB p[j] = T := ⟨_, rfl⟩
            rw [hT] at bc RR
            have BC := Lib.hid bc
            clear hc hx hr bc hT
            cases hfx : finB p[j]
            · have s0 := nofin_sub HX.out hfx
              obtain ⟨r, n, hr, re⟩ := run_arith (P := Tryz.prog) .sub 28 .f64 p[j] p[j] wr rfl
              rw [s0] at hr
              have t0 := nan_eq hr.1 hr.2
              rw [hfx] at RR
              clear s0 hfx hr
              cases F <;> cases G
              all_goals
                go_wp2_with (first
                  | (go_at_call 47; (with_reducible refine (BC.out _).mono ?_); rintro e w' ⟨rfl, rfl⟩))
                go_roundw
                case rel => first | exact ⟨j + 1, _, _, rfl, rfl, by go_num, by omega, Lib.hid (RR.out _ _ _ (by rfl) (by cases T <;> rfl) (by first | exact CWH.out | exact CWH.out.drewN _))⟩ | ((repeat apply Exists.intro); exact ⟨⟨j + 1, _, _, rfl, rfl, by go_num, by omega, Lib.hid (RR.out _ _ _ (by rfl) (by cases T <;> rfl) (by first | exact CWH.out | exact CWH.out.drewN _))⟩, rfl⟩)
                case measure => simp [intOf]; omega
            · have s0 := fin_sub HX.out hfx
              have z0 : (FloatKind.f64.format.order 0 0 == some .eq) = true := by decide
              rw [hfx] at RR
              clear hfx
              cases F <;> cases G
              all_goals
                go_wp2_with (first
                  | (go_at_call 47; (with_reducible refine (BC.out _).mono ?_); rintro e w' ⟨rfl, rfl⟩))
                go_roundw
                case rel => first | exact ⟨j + 1, _, _, rfl, rfl, by go_num, by omega, Lib.hid (RR.out _ _ _ (by rfl) (by cases T <;> rfl) CWH.out)⟩ | ((repeat apply Exists.intro); exact ⟨⟨j + 1, _, _, rfl, rfl, by go_num, by omega, Lib.hid (RR.out _ _ _ (by rfl) (by cases T <;> rfl) CWH.out)⟩, rfl⟩)
                case measure => simp [intOf]; omega
          · have l1 : decide (j < p.length) = false := decide_eq_false hlt
            have e1 : p.take j = p := List.take_of_length_le (by omega)
            have r1 := hr.out
            rw [e1] at r1
            have R1 := Lib.hid r1
            clear e1 r1 hr
            go_wp2
            go_roundw
            case rel => exact ⟨0 + 1, F, G, rfl, rfl, by go_num, by omega, Lib.hid ⟨by rw [R1.out.1]; unfold fk; simp, by rw [R1.out.2.1]; unfold gk; simp, R1.out.2.2⟩⟩
            case measure => simp [intOf]
      · go_wp2
        go_loopw [9, 10, 54] (fun v9 v10 v54 wr2 => ∃ (j : Nat) (F G : Bool), v9 = .bool F ∧ v10 = .bool G ∧ v54 = .int .i64 j ∧ j ≤ l.length ∧ Hid (F = (fk p l s 1 && (l.take j).all finB) ∧ G = (gk p l s 1 && (l.take j).all btwB) ∧ CW W wr2)) (fun _ _ v _ => l.length - (intOf v).toNat)
        case atStart => exact ⟨0, F, G, rfl, rfl, rfl, Nat.zero_le _, Lib.hid ⟨by rw [hq.out.1]; simp, by rw [hq.out.2.1]; simp, hq.out.2.2⟩⟩
        case round =>
          obtain ⟨j, F, G, rfl, rfl, rfl, hj, hr⟩ := hrel
          clear hq
          by_cases hlt : j < l.length
          · obtain ⟨ad, hA, hc⟩ := HL.out.at hlt
            subst hA
            have hcell : wr.cell? (ad.add j) = some (.float .f64 l[j]) := (hr.out.2.2.b.cell (World.block_lt_of_cell? W _ hc)).trans hc
            have l1 : decide (j < l.length) = true := decide_eq_true hlt
            have hx := WL.out _ (List.getElem_mem hlt)
            have bc := between_c l[j] hx
            have HX := Lib.hid hx
            have RR : Hid (∀ wr' F' G', F' = (F && finB l[j]) → G' = (G && btwB l[j]) → CW W wr' → (F' = (fk p l s 1 && (l.take (j + 1)).all finB) ∧ G' = (gk p l s 1 && (l.take (j + 1)).all btwB) ∧ CW W wr')) := Lib.hid (fun wr' F' G' h1 h2 h3 => ⟨by rw [h1, all_snoc hlt, hr.out.1, Bool.and_assoc], by rw [h2, all_snoc hlt, hr.out.2.1, Bool.and_assoc], h3⟩)
            have CWH := Lib.hid hr.out.2.2
            obtain ⟨T, hT⟩ : ∃ T, btwB l[j] = T := ⟨_, rfl⟩
            rw [hT] at bc RR
            have BC := Lib.hid bc
            clear hc hx hr bc hT
            cases hfx : finB l[j]
            · have s0 := nofin_sub HX.out hfx
              obtain ⟨r, n, hr, re⟩ := run_arith (P := Tryz.prog) .sub 28 .f64 l[j] l[j] wr rfl
              rw [s0] at hr
              have t0 := nan_eq hr.1 hr.2
              rw [hfx] at RR
              clear s0 hfx hr
              cases F <;> cases G
              all_goals
                go_wp2_with (first
                  | (go_at_call 47; (with_reducible refine (BC.out _).mono ?_); rintro e w' ⟨rfl, rfl⟩))
                go_roundw
                case rel => first | exact ⟨j + 1, _, _, rfl, rfl, by go_num, by omega, Lib.hid (RR.out _ _ _ (by rfl) (by cases T <;> rfl) (by first | exact CWH.out | exact CWH.out.drewN _))⟩ | ((repeat apply Exists.intro); exact ⟨⟨j + 1, _, _, rfl, rfl, by go_num, by omega, Lib.hid (RR.out _ _ _ (by rfl) (by cases T <;> rfl) (by first | exact CWH.out | exact CWH.out.drewN _))⟩, rfl⟩)
                case measure => simp [intOf]; omega
            · have s0 := fin_sub HX.out hfx
              have z0 : (FloatKind.f64.format.order 0 0 == some .eq) = true := by decide
              rw [hfx] at RR
              clear hfx
              cases F <;> cases G
              all_goals
                go_wp2_with (first
                  | (go_at_call 47; (with_reducible refine (BC.out _).mono ?_); rintro e w' ⟨rfl, rfl⟩))
                go_roundw
                case rel => first | exact ⟨j + 1, _, _, rfl, rfl, by go_num, by omega, Lib.hid (RR.out _ _ _ (by rfl) (by cases T <;> rfl) CWH.out)⟩ | ((repeat apply Exists.intro); exact ⟨⟨j + 1, _, _, rfl, rfl, by go_num, by omega, Lib.hid (RR.out _ _ _ (by rfl) (by cases T <;> rfl) CWH.out)⟩, rfl⟩)
                case measure => simp [intOf]; omega
          · have l1 : decide (j < l.length) = false := decide_eq_false hlt
            have e1 : l.take j = l := List.take_of_length_le (by omega)
            have r1 := hr.out
            rw [e1] at r1
            have R1 := Lib.hid r1
            clear e1 r1 hr
            go_wp2
            go_roundw
            case rel => exact ⟨1 + 1, F, G, rfl, rfl, by go_num, by omega, Lib.hid ⟨by rw [R1.out.1]; unfold fk; simp, by rw [R1.out.2.1]; unfold gk; simp, R1.out.2.2⟩⟩
            case measure => simp [intOf]
      · have b2 := kb_cell hq.out.2.2.r (i := 0) rfl
        have b3 := kb_cell hq.out.2.2.r (i := 1) rfl
        have b4 := kb_frozen hq.out.2.2.r 0
        have b5 := kb_frozen hq.out.2.2.r 1
        have fF : F = cfin p l s := by rw [hq.out.1]; unfold fk cfin; simp
        have gG : G = cgood p l s := by rw [hq.out.2.1]; unfold gk cgood; simp
        have CWH := Lib.hid hq.out.2.2
        have HF := Lib.hid fF
        have HG := Lib.hid gG
        have z2 := heap_set (heap_set hq.out.2.2.r 0 (.slice none 0 0)) 1 (.slice none 0 0)
        have Z0 := Lib.hid (kb_cell z2 (i := 0) (v := .slice none 0 0) rfl)
        have Z1 := Lib.hid (kb_cell z2 (i := 1) (v := .slice none 0 0) rfl)
        clear fF gG hq z2
        cases F
        · have ce : chordE p l s = 5 := by unfold chordE; rw [if_pos SH.out, if_neg (by rw [← HF.out]; simp)]
          have CE := Lib.hid ce
          clear ce
          go_wp2
          refine bodyPost_ret (v := .tuple #[.agg #[.slice none 0 0, .slice none 0 0], .int .i64 5]) (by simp [results, Tryz.results32, go_sem, Z0.out, Z1.out]) rfl ?_
          have := ChP.none_ (W := W) (p := p) (l := l) (s := s) (w' := (wr.setCell ⟨W.heap.size, 0, none⟩ (.slice none 0 0)).setCell ⟨W.heap.size, 1, none⟩ (.slice none 0 0)) (by rw [CE.out]; decide) (((CWH.out.b).setCell (p := ⟨W.heap.size, 0, none⟩) (Nat.le_refl _) _).setCell (p := ⟨W.heap.size, 1, none⟩) (Nat.le_refl _) _)
          rw [CE.out] at this
          exact this
        · cases G
          · have ce : chordE p l s = 2 := by unfold chordE; rw [if_pos SH.out, if_pos HF.out.symm, if_neg (by rw [← HG.out]; simp)]
            have CE := Lib.hid ce
            clear ce
            go_wp2
            refine bodyPost_ret (v := .tuple #[.agg #[.slice none 0 0, .slice none 0 0], .int .i64 2]) (by simp [results, Tryz.results32, go_sem, Z0.out, Z1.out]) rfl ?_
            have := ChP.none_ (W := W) (p := p) (l := l) (s := s) (w' := (wr.setCell ⟨W.heap.size, 0, none⟩ (.slice none 0 0)).setCell ⟨W.heap.size, 1, none⟩ (.slice none 0 0)) (by rw [CE.out]; decide) (((CWH.out.b).setCell (p := ⟨W.heap.size, 0, none⟩) (Nat.le_refl _) _).setCell (p := ⟨W.heap.size, 1, none⟩) (Nat.le_refl _) _)
            rw [CE.out] at this
            exact this
          · have ce : chordE p l s = 0 := by unfold chordE; rw [if_pos SH.out, if_pos HF.out.symm, if_pos HG.out.symm]
            have gd := HG.out.symm
            unfold cgood at gd
            simp only [Bool.and_eq_true, List.all_eq_true] at gd
            have SP := Lib.hid (psh_of HS.out gd.1.1)
            have BP : Hid (∀ x ∈ p, Bt x) := Lib.hid (fun x hx => btw_of (WP.out x hx) (gd.1.2 x hx))
            have BL : Hid (∀ x ∈ l, Bt x) := Lib.hid (fun x hx => btw_of (WL.out x hx) (gd.2 x hx))
            have CE := Lib.hid ce
            have hsz : W.heap.size < wr.heap.size := kb_lt CWH.out.r
            have H0 : Hid (HW W (wr.alloc (.cells #[.slice none 0 0, .slice none 0 0] 24)) wr.heap.size (.slice none 0 0) (.slice none 0 0) [] []) := Lib.hid ⟨CWH.out.b.alloc CWH.out.b.size _, kb_alloc CWH.out.r, kb_new (Below.refl _ _), World.ownsRow_nil _ _ _ _, World.ownsRow_nil _ _ _ _, fun b hb => (by simp [Value.ownBlock] at hb), hsz⟩
            have HSZ := Lib.hid hsz
            clear ce gd CWH b2 b3 b4 b5 hsz
            obtain ⟨wq, hwq⟩ : ∃ w, w = wr := ⟨_, rfl⟩
            subst hwq
            go_wp2
            go_loopw [82] (fun v82 w2 => ∃ (k : Nat) (vD vO : Value), v82 = .int .i64 k ∧ k ≤ p.length ∧ Hid (HW W w2 wq.heap.size vD vO (chDk p l s k) (chOk l s (min k (p.length - 1))))) (fun v _ => p.length - (intOf v).toNat)
            case atStart => exact ⟨0, _, _, rfl, Nat.zero_le _, Lib.hid (by rw [Nat.zero_min]; exact H0.out)⟩
            case round =>
              obtain ⟨k, vD, vO, rfl, hk, hq⟩ := hrel
              clear H0
              by_cases hlt : k < p.length
              · have l1 : decide (k < p.length) = true := decide_eq_true hlt
                have hl0 : k < l.length := by have := HA3.out; omega
                have hl1 : k + 1 < l.length := by have := HA3.out; omega
                obtain ⟨ad, hA, hc⟩ := HP.out.at hlt
                obtain ⟨bd, hB, hc1⟩ := HL.out.at hl0
                obtain ⟨bd', hB', hc2⟩ := HL.out.at hl1
                subst hA
                subst hB
                injection hB' with hB'
                subst hB'
                have m0 : wr.cell? (ad.add k) = some (.float .f64 p[k]) := (hq.out.b.cell (World.block_lt_of_cell? W _ hc)).trans hc
                have m1 : wr.cell? (bd.add k) = some (.float .f64 l[k]) := (hq.out.b.cell (World.block_lt_of_cell? W _ hc1)).trans hc1
                have m2 : wr.cell? ⟨bd.block, bd.off + (k + 1), none⟩ = some (.float .f64 l[k + 1]) := by
                  have := (hq.out.b.cell (World.block_lt_of_cell? W _ hc2)).trans hc2
                  simpa [Addr.add] using this
                have c0 := kb_cell hq.out.q (i := 0) (v := vD) rfl
                have c1 := kb_cell hq.out.q (i := 1) (v := vO) rfl
                have f0 := kb_frozen hq.out.q 0
                have f1 := kb_frozen hq.out.q 1
                obtain ⟨x1, x2, x3, _⟩ := quo_ok SP.out (BL.out _ (List.getElem_mem hl0))
                obtain ⟨y1, y2, y3, _⟩ := quo_ok SP.out (BL.out _ (List.getElem_mem hl1))
                obtain ⟨z1, z2, z3⟩ := add_ok x2 y2 x3 y3
                obtain ⟨t1, t2, t3⟩ := dif_ok (BP.out _ (List.getElem_mem hlt)) z2 z3
                obtain ⟨P, hP⟩ : ∃ P, fdiv s l[k] = P := ⟨_, rfl⟩
                obtain ⟨Q, hQ⟩ : ∃ Q, fdiv s l[k + 1] = Q := ⟨_, rfl⟩
                obtain ⟨R, hR⟩ : ∃ R, fadd P Q = R := ⟨_, rfl⟩
                obtain ⟨T, hT⟩ : ∃ T, fsub p[k] R = T := ⟨_, rfl⟩
                have dk : chDk p l s (k + 1) = chDk p l s k ++ [T] := by
                  rw [chDk_succ, List.getD_eq_getElem?_getD, List.getD_eq_getElem?_getD, List.getD_eq_getElem?_getD, List.getElem?_eq_getElem hlt, List.getElem?_eq_getElem hl0, List.getElem?_eq_getElem hl1]
                  show _ ++ [fsub p[k] (fadd (fdiv s l[k]) (fdiv s l[k + 1]))] = _
                  rw [hP, hQ, hR, hT]
                have ok_ : chOk l s (k + 1) = chOk l s k ++ [Q] := by
                  rw [chOk_succ, List.getD_eq_getElem?_getD, List.getElem?_eq_getElem hl1]
                  show _ ++ [fdiv s l[k + 1]] = _
                  rw [hQ]
                rw [hP] at x1
                rw [hQ] at y1
                rw [hP, hQ, hR] at z1
                rw [hP, hQ, hR, hT] at t1
                have s1 : ∀ t w, (binOp .quo t (.float .f64 s) (.float .f64 l[k])).run Tryz.prog w = .ok (.float .f64 P) w := fun t w => run_float_arith w .quo t .f64 _ _ P x1
                have s2 : ∀ t w, (binOp .quo t (.float .f64 s) (.float .f64 l[k + 1])).run Tryz.prog w = .ok (.float .f64 Q) w := fun t w => run_float_arith w .quo t .f64 _ _ Q y1
                have s3 : ∀ t w, (binOp .add t (.float .f64 P) (.float .f64 Q)).run Tryz.prog w = .ok (.float .f64 R) w := fun t w => run_float_arith w .add t .f64 _ _ R z1
                have s4 : ∀ t w, (binOp .sub t (.float .f64 p[k]) (.float .f64 R)).run Tryz.prog w = .ok (.float .f64 T) w := fun t w => run_float_arith w .sub t .f64 _ _ T t1
                have j0 : (0 : Int) ≤ (k : Int) := by omega
                have j1 : (k : Int) < (l.length : Int) := by omega
                have j2 : (k : Int) + 1 < (l.length : Int) := by omega
                have j3 : (0 : Int) ≤ (k : Int) + 1 := by omega
                have j4 : IntKind.i64.wrap ((k : Int) + 1) = (k : Int) + 1 := by rw [IntKind.wrap_i64]; omega
                have j5 : ((k : Int) + 1).toNat = k + 1 := by omega
                have DK := Lib.hid dk
                have OK := Lib.hid ok_
                have hm : min k (p.length - 1) = k := by omega
                have hq1 := hq.out
                rw [hm] at hq1
                have H2 := Lib.hid hq1
                clear hm hq1
                have len1 : Hid (∀ n, (chDk p l s n).length = n) := Lib.hid (fun n => chDk_len p l s n)
                have len2 : Hid (∀ n, (chOk l s n).length = n) := Lib.hid (fun n => chOk_len l s n)
                have J4 := Lib.hid j4
                clear hq hc hc1 hc2 x1 x2 x3 y1 y2 y3 z1 z2 z3 t1 t2 t3 hP hQ hR hT dk ok_
                go_wp2
                go_region_held3 (fun w => w.cell? (bd.add k) = some (.float .f64 l[k]) ∧ w.cell? ⟨bd.block, bd.off + (k + 1), none⟩ = some (.float .f64 l[k + 1])) (go_keep) (fail)
                by_cases hlast : k + 1 < p.length
                all_goals
                  have HLA := Lib.hid hlast
                  first
                    | have l2 : decide ((k : Int) + 1 < (p.length : Int)) = true := decide_eq_true (by omega)
                    | have l2 : decide ((k : Int) + 1 < (p.length : Int)) = false := decide_eq_false (by omega)
                  clear hlast
                  go_wp2_with (first
                    | (at_builtin; (refine print_append_cells (w0 := W) W.heap.size rfl (.tmp 101) (.tmp 107) 22 28 (.float .f64 0) 1 8 rfl Tryz.underlying22 f_info rfl (by decide) (by decide) vD (chDk p l s k).length ((chDk p l s k).map (Value.float .f64)) [.float .f64 T] rfl rfl rfl (fun u hu => by rw [List.mem_singleton.1 hu]; rfl) H2.out.drew.d H2.out.drew.b H2.out.drew.b.size (by rw [len1.out]; omega) ?_); intro v1 w1 hown hb hg hat
                       obtain ⟨e1, e2⟩ := H2.out.drew.appD hown hb hg hat
                       obtain ⟨A1, n1, ev, _, _⟩ := ow_sl e2.d
                       obtain ⟨m1, hm1⟩ : ∃ m, (chDk p l s k ++ [T]).length = m := ⟨_, rfl⟩
                       rw [hm1] at ev
                       clear hm1
                       subst ev
                       have H3 := Lib.hid e2
                       have g0 := kb_cell e1 (i := 0) (v := vD) rfl
                       have g1 := kb_cell e1 (i := 1) (v := vO) rfl
                       have g2 := kb_frozen e1 0
                       have g3 := kb_frozen e1 1
                       have g4 := kb_cell e2.q (i := 1) (v := vO) rfl
                       clear hown hb hg hat e1 e2)
                    | (at_builtin; (refine print_append_cells (w0 := W) W.heap.size rfl (.tmp 115) (.tmp 117) 22 28 (.float .f64 0) 1 8 rfl Tryz.underlying22 f_info rfl (by decide) (by decide) vO (chOk l s k).length ((chOk l s k).map (Value.float .f64)) [.float .f64 Q] rfl (by show Value.slice (some ⟨w1.heap.size, 0, none⟩) 1 1 = _; simp [World.setCell]) rfl (fun u hu => by rw [List.mem_singleton.1 hu]; rfl) H3.out.o H3.out.b H3.out.b.size (by rw [len2.out]; omega) ?_); intro v2 w2 hown hb hg hat
                       obtain ⟨e1, e2⟩ := H3.out.appO hown hb hg hat
                       obtain ⟨A2, n2, ev, _, _⟩ := ow_sl e2.o
                       obtain ⟨m2, hm2⟩ : ∃ m, (chOk l s k ++ [Q]).length = m := ⟨_, rfl⟩
                       rw [hm2] at ev
                       clear hm2
                       subst ev
                       have H4 := Lib.hid e2
                       have g5 := kb_cell e1 (i := 1) (v := vO) rfl
                       have g6 := kb_frozen e1 1
                       clear hown hb hg hat e1 e2))
                  go_roundw
                  case rel =>
                    first
                      | exact ⟨k + 1, _, _, by go_num, by omega, Lib.hid (by rw [show min (k + 1) (p.length - 1) = k + 1 by have := HLA.out; omega, DK.out, OK.out]; exact H4.out)⟩
                      | exact ⟨k + 1, _, vO, by go_num, by omega, Lib.hid (by rw [show min (k + 1) (p.length - 1) = k by have := HLA.out; omega, DK.out]; exact H3.out)⟩
                      | ((repeat apply Exists.intro); exact ⟨⟨k + 1, _, _, by go_num, by omega, Lib.hid (by rw [show min (k + 1) (p.length - 1) = k + 1 by have := HLA.out; omega, DK.out, OK.out]; exact H4.out)⟩, rfl⟩)
                      | ((repeat apply Exists.intro); exact ⟨⟨k + 1, _, vO, by go_num, by omega, Lib.hid (by rw [show min (k + 1) (p.length - 1) = k by have := HLA.out; omega, DK.out]; exact H3.out)⟩, rfl⟩)
                  case measure => simp [intOf]; omega
              · have l1 : decide (k < p.length) = false := decide_eq_false hlt
                obtain rfl : k = p.length := by omega
                have hq1 := hq.out
                rw [show min p.length (p.length - 1) = p.length - 1 by omega] at hq1
                obtain ⟨AD, nD, eD, _, _⟩ := ow_sl hq1.d
                obtain ⟨AO, nO, eO, _, _⟩ := ow_sl hq1.o
                obtain ⟨mD, hmD⟩ : ∃ m, (chDk p l s p.length).length = m := ⟨_, rfl⟩
                obtain ⟨mO, hmO⟩ : ∃ m, (chOk l s (p.length - 1)).length = m := ⟨_, rfl⟩
                rw [hmD] at eD
                rw [hmO] at eO
                clear hmD hmO
                subst eD
                subst eO
                have c0 := kb_cell hq1.q (i := 0) rfl
                have c1 := kb_cell hq1.q (i := 1) rfl
                have b2 := kb_cell hq1.r (i := 0) (v := .slice none 0 0) rfl
                have b3 := kb_cell hq1.r (i := 1) (v := .slice none 0 0) rfl
                have b4 := kb_frozen hq1.r 0
                have b5 := kb_frozen hq1.r 1
                have z2 := heap_set (heap_set hq1.r 0 (.slice AD mD nD)) 1 (.slice AO mO nO)
                have Z0 := Lib.hid (kb_cell z2 (i := 0) rfl)
                have Z1 := Lib.hid (kb_cell z2 (i := 1) rfl)
                have H2 := Lib.hid hq1
                clear hq hq1 z2
                go_wp2
                refine bodyPost_ret (v := .tuple #[.agg #[.slice AD mD nD, .slice AO mO nO], .int .i64 0]) (by simp [results, Tryz.results32, go_sem, Z0.out, Z1.out]) rfl ?_
                have far : ∀ v : Value, ∀ L : List Nat, Ow wr W.heap.size v L → Ow ((wr.setCell ⟨W.heap.size, 0, none⟩ (.slice AD mD nD)).setCell ⟨W.heap.size, 1, none⟩ (.slice AO mO nO)) W.heap.size v L := fun v L h => own_move h (fun k hk => by
                  have ne : k ≠ W.heap.size := fun e => own_ne h H2.out.r f_ne (by rw [hk, e])
                  rw [Below.heap_setCell _ _ _ _ ne, Below.heap_setCell _ _ _ _ ne])
                refine ⟨_, _, by rw [CE.out], ?_, ?_, ((H2.out.b).setCell (p := ⟨W.heap.size, 0, none⟩) (Nat.le_refl _) _).setCell (p := ⟨W.heap.size, 1, none⟩) (Nat.le_refl _) _⟩
                · unfold chD; rw [if_pos CE.out]; exact far _ _ H2.out.d
                · unfold chO; rw [if_pos CE.out]; exact far _ _ H2.out.o
end Go.Proofs.YtaedkekjekbjmaaGreatDoor

/- girderref17: powers of two. -/
namespace Go.Proofs.YtaedkekjekbjmaaGreatDoor
open Go Go.RowKit Nv GFl Ieee
set_option maxRecDepth 100000
set_option linter.unusedSimpArgs false

/-- 2 to the power e - 1074. -/
def tw (e : Nat) : Nat := if e < 52 then 2 ^ e else (e - 51) * B52
theorem tw_mg (e : Nat) : mg B52 (tw e) = p2 e := by
  unfold tw
  by_cases h : e < 52
  · rw [if_pos h, mg_small]
    · exact (p2_def e).symm
    · exact Nat.lt_of_lt_of_eq (Nat.pow_lt_pow_right (by decide) h) (by decide)
  · rw [if_neg h, mgP (by omega), ← p2_add]; congr 1; omega
theorem tw_le {e : Nat} (h : e ≤ 2097) : tw e ≤ 9214364837600034816 := by
  unfold tw
  by_cases h1 : e < 52
  · rw [if_pos h1]
    have : 2 ^ e < 2 ^ 52 := Nat.pow_lt_pow_right (by decide) h1
    have e2 : (2 : Nat) ^ 52 = 4503599627370496 := by decide
    omega
  · rw [if_neg h1]
    show (e - 51) * 4503599627370496 ≤ _
    omega
theorem tw_ok {e : Nat} (h : e ≤ 2097) : W64 (tw e) ∧ neg (tw e) = false ∧ rg (tw e) = tw e := by
  have := tw_le h
  have h1 : wd false (tw e) = tw e := by rw [wd_eq]; rfl
  have h2 : tw e < 9223372036854775808 := by omega
  refine ⟨?_, ?_, ?_⟩
  · rw [← h1]; exact wd_w h2
  · have := wd_neg (s := false) h2; rwa [h1] at this
  · have := wd_rg (s := false) h2; rwa [h1] at this
theorem tw_up {e : Nat} (h : e + 1 ≤ 2097) : double.mul (tw e) 4611686018427387904 = some (tw (e + 1)) := by
  obtain ⟨a1, a2, a3⟩ := tw_ok (e := e) (by omega)
  have l1 := tw_le (e := e) (by omega)
  have l2 := tw_le h
  have := dbl64 (q := tw (e + 1)) a1 (by rw [a3]; omega) (by omega) (by rw [a3, tw_mg, tw_mg, p2_suc, Nat.mul_comm])
  rw [this, a2, wd_eq]; rfl
theorem tw_down {e : Nat} (h : e + 1 ≤ 2097) : double.div (tw (e + 1)) 4611686018427387904 = some (tw e) := by
  obtain ⟨a1, a2, a3⟩ := tw_ok h
  have l1 := tw_le (e := e) (by omega)
  have l2 := tw_le h
  have := half64 (q := tw e) a1 (by rw [a3]; omega) (by omega) (by rw [a3, tw_mg, tw_mg, p2_suc, Nat.mul_comm])
  rw [this, a2, wd_eq]; rfl
theorem tw_one : tw 1074 = 4607182418800017408 := by unfold tw; rw [if_neg (by decide)]; decide +kernel
set_option maxHeartbeats 4000000 in
theorem pow2_c (n : Int) (h1 : -1074 ≤ n) (h2 : n ≤ 1023) (w : World) : Calls Tryz.prog 23 #[.int .i64 n] w fun e w' => e = .returned (.float .f64 (tw (1074 + n).toNat)) ∧ w' = w := by
  have T1 := Lib.hid tw_one
  go_enter Tryz.func23, Tryz.ntmps23
  go_wp2
  go_loopw [3, 4] (fun v3 v4 wr => ∃ i : Nat, v3 = .float .f64 (tw (1074 + i)) ∧ v4 = .int .i64 i ∧ (i : Int) ≤ max n 0 ∧ Hid (wr = w)) (fun _ v _ => 2000 - (intOf v).toNat)
  case atStart => exact ⟨0, by rw [Nat.add_zero, T1.out], rfl, by omega, Lib.hid rfl⟩
  case round =>
    obtain ⟨i, rfl, rfl, hi, hq⟩ := hrel
    by_cases hlt : (i : Int) < n
    · have l1 : decide ((i : Int) < n) = true := decide_eq_true hlt
      have u := tw_up (e := 1074 + i) (by omega)
      have s1 : ∀ t w, (binOp .mul t (.float .f64 (tw (1074 + i))) (.float .f64 4611686018427387904)).run Tryz.prog w = .ok (.float .f64 (tw (1074 + i + 1))) w := fun t w => run_float_arith w .mul t .f64 _ _ _ u
      have j1 : IntKind.i64.wrap ((i : Int) + 1) = (i : Int) + 1 := by rw [IntKind.wrap_i64]; omega
      have HL := Lib.hid hlt
      clear u hlt
      go_wp2
      go_roundw
      case rel => exact ⟨i + 1, rfl, by go_num, by have := HL.out; omega, hq⟩
      case measure => have := HL.out; simp [intOf]; omega
    · have l1 : decide ((i : Int) < n) = false := decide_eq_false hlt
      obtain ⟨m, hm⟩ : ∃ m, 1074 + i = m := ⟨_, rfl⟩
      have hmb : (1074 : Int) + max n 0 = m := by omega
      rw [hm]
      have HQ := Lib.hid hq.out
      clear hq hlt hi
      go_wp2
      go_loopw [3, 5] (fun v3 v5 wr => ∃ j : Nat, v3 = .float .f64 (tw (m - j)) ∧ v5 = .int .i64 (-(j : Int)) ∧ (j : Int) ≤ max (-n) 0 ∧ Hid (wr = w)) (fun _ v _ => 2000 - (-(intOf v)).toNat)
      case atStart => exact ⟨0, rfl, rfl, by omega, HQ⟩
      case round =>
        obtain ⟨j, rfl, rfl, hj, hq⟩ := hrel
        by_cases hgt : n < -(j : Int)
        · have l2 : decide (n < -(j : Int)) = true := decide_eq_true hgt
          obtain ⟨e, he⟩ : ∃ e, m - j = e + 1 := ⟨m - j - 1, by omega⟩
          have he2 : m - (j + 1) = e := by omega
          have u := tw_down (e := e) (by omega)
          have s1 : ∀ t w, (binOp .quo t (.float .f64 (tw (e + 1))) (.float .f64 4611686018427387904)).run Tryz.prog w = .ok (.float .f64 (tw e)) w := fun t w => run_float_arith w .quo t .f64 _ _ _ u
          have j1 : IntKind.i64.wrap (-(j : Int) - 1) = -((j + 1 : Nat) : Int) := by rw [IntKind.wrap_i64]; omega
          have HL := Lib.hid hgt
          rw [he]
          clear u hgt
          go_wp2
          go_roundw
          case rel => exact ⟨j + 1, by rw [he2], rfl, by have := HL.out; omega, hq⟩
          case measure => have := HL.out; simp [intOf]; omega
        · have l2 : decide (n < -(j : Int)) = false := decide_eq_false hgt
          have he : m - j = (1074 + n).toNat := by omega
          rw [he]
          clear hgt
          go_wp2
          go_ret
          exact ⟨rfl, hq.out⟩
end Go.Proofs.YtaedkekjekbjmaaGreatDoor

/- sturm.halve. -/
namespace Go.Proofs.YtaedkekjekbjmaaGreatDoor
open Go Go.RowKit Nv GFl
set_option maxRecDepth 100000
set_option linter.unusedSimpArgs false

theorem ret_float_float {k q : FloatKind} {a b c d : Nat} (h : a = b) (h' : c = d) : Ending.returned (.tuple #[.float k a, .float q c]) = .returned (.tuple #[.float k b, .float q d]) := by rw [h, h']
/-- Halving between places: T tells of a place whether something has turned there. -/
def hlv (T : Int → Bool) : Nat → Int → Int → Int × Int
  | 0, a, b => (a, b)
  | n + 1, a, b => if 1 < b - a then (if T (a + (b - a) / 2) then hlv T n a (a + (b - a) / 2) else hlv T n (a + (b - a) / 2) b) else (a, b)
theorem hlv_stop (T : Int → Bool) (n : Nat) {a b : Int} (h : ¬ 1 < b - a) : hlv T n a b = (a, b) := by cases n <;> simp [hlv, h]
set_option maxHeartbeats 4000000 in
theorem halveF_c (c1 c2 : Value) (T : Int → Bool) (a b : Int) (W : World) (ha : -6867989431740006400 ≤ a) (hab : a < b) (hb : b ≤ 6867989431740006400) (hd : b - a ≤ 6867989431740006400)
    (hT : ∀ p : Int, a < p → p < b → ∀ w, Below W.heap.size W w → Calls Tryz.prog 18 #[.float .f64 (atW p), c1, c2] w fun e w' => e = .returned (.bool (T p)) ∧ Below w.heap.size w w') :
    Calls Tryz.prog 20 #[.int .i64 a, .int .i64 b, .func (.func 18) #[] #[c1, c2]] W fun e w' => e = .returned (.tuple #[.float .f64 (atW (hlv T 64 a b).1), .float .f64 (atW (hlv T 64 a b).2)]) ∧ Below W.heap.size W w' := by
  have HT := Lib.hid hT
  clear hT
  go_enter Tryz.func20, Tryz.ntmps20
  go_wp2
  go_loopw [0, 1] (fun v0 v1 wr => ∃ (p q : Int), v0 = .int .i64 p ∧ v1 = .int .i64 q ∧ a ≤ p ∧ p < q ∧ q ≤ b ∧ Hid (Below W.heap.size W wr ∧ ∃ n, q - p ≤ 2 ^ n ∧ n ≤ 64 ∧ hlv T n p q = hlv T 64 a b)) (fun v0 v1 _ => (intOf v1 - intOf v0).toNat)
  case atStart => exact ⟨a, b, rfl, rfl, by omega, by omega, by omega, Lib.hid ⟨Below.refl _ _, 64, by omega, by omega, rfl⟩⟩
  case round =>
    obtain ⟨p, q, rfl, rfl, h1, h2, h3, hq⟩ := hrel
    have w1 : wrap64 (q - p) = q - p := by unfold wrap64; omega
    by_cases hlt : 1 < q - p
    · obtain ⟨H, hH⟩ : ∃ H : Int, (q - p) / 2 = H := ⟨_, rfl⟩
      obtain ⟨M, hM⟩ : ∃ M : Int, p + H = M := ⟨_, rfl⟩
      have b1 : p < M := by omega
      have b2 : M < q := by omega
      have w2 : (q - p).tdiv 2 = H := by rw [Int.tdiv_eq_ediv_of_nonneg (by omega)]; exact hH
      have w3 : wrap64 H = H := by unfold wrap64; omega
      have w4 : wrap64 (p + H) = M := by unfold wrap64; omega
      have l1 : decide (1 < q - p) = true := decide_eq_true hlt
      have ea : atF M = atW M := by unfold atF; rw [if_pos (by rw [atOk_eq]; simp; omega)]
      have tc := HT.out M (by omega) (by omega) wr hq.out.1
      have ac := at_c M (by omega) (by omega)
      rw [ea] at ac
      have hm : ∃ n, hlv T 64 a b = (if T M then hlv T n p M else hlv T n M q) ∧ q - p ≤ 2 ^ (n + 1) ∧ n + 1 ≤ 64 := by
        obtain ⟨n, e1, e2, e3⟩ := hq.out.2
        cases n with
        | zero => simp at e1; omega
        | succ n =>
          refine ⟨n, ?_, e1, e2⟩
          rw [← e3]
          show (if 1 < q - p then _ else _) = _
          rw [if_pos hlt, hH, hM]
      have HM := Lib.hid hm
      have HMV := Lib.hid hM
      have HHV := Lib.hid hH
      have TC := Lib.hid tc
      have AC := Lib.hid ac
      have B1 := Lib.hid (And.intro b1 b2)
      have BL := Lib.hid hq.out.1
      clear hm hM hH tc ac b1 b2 ea hq hlt
      cases ht : T M
      all_goals
        have tc := TC.out
        have hm := HM.out
        rw [ht] at tc hm
        have TC2 := Lib.hid tc
        have HM2 := Lib.hid hm
        clear tc hm TC HM ht
        go_wp2_with (first
          | (go_at_call 38; (with_reducible refine (AC.out _).mono ?_); rintro e w' ⟨rfl, hw⟩; obtain rfl := hw.symm; clear hw)
          | (go_at_call 18; (with_reducible refine (TC2.out).mono ?_); rintro e w2 ⟨rfl, hb⟩; have HB2 := Lib.hid hb; clear hb))
        go_roundw
        case rel =>
          obtain ⟨n, e1, e2, e3⟩ := HM2.out
          have := B1.out; have := HHV.out; have := HMV.out
          rw [Int.pow_succ] at e2
          first
            | (rw [if_neg (by simp)] at e1
               exact ⟨M, q, rfl, rfl, by omega, by omega, by omega, Lib.hid ⟨bl_then BL.out HB2.out, n, by generalize (2 : Int) ^ n = z at *; omega, by omega, e1.symm⟩⟩)
            | (rw [if_pos trivial] at e1
               exact ⟨p, M, rfl, rfl, by omega, by omega, by omega, Lib.hid ⟨bl_then BL.out HB2.out, n, by generalize (2 : Int) ^ n = z at *; omega, by omega, e1.symm⟩⟩)
        case measure => have := B1.out; simp [intOf]; omega
    · have l1 : decide (1 < q - p) = false := decide_eq_false hlt
      have ea : atF p = atW p := by unfold atF; rw [if_pos (by rw [atOk_eq]; simp; omega)]
      have eb : atF q = atW q := by unfold atF; rw [if_pos (by rw [atOk_eq]; simp; omega)]
      have fin : hlv T 64 a b = (p, q) := by
        obtain ⟨n, e1, e2, e3⟩ := hq.out.2
        rw [← e3, hlv_stop T n hlt]
      have FIN := Lib.hid fin
      have EA := Lib.hid ea
      have EB := Lib.hid eb
      have BL := Lib.hid hq.out.1
      have ac := at_c p (by omega) (by omega)
      have ac2 := at_c q (by omega) (by omega)
      have AC := Lib.hid ac
      have AC2 := Lib.hid ac2
      clear fin ea eb hq hlt ac ac2
      go_wp2_with (first
        | (go_at_call 38; (first | (with_reducible refine (AC.out _).mono ?_) | (with_reducible refine (AC2.out _).mono ?_)); rintro e w' ⟨rfl, hw⟩; obtain rfl := hw.symm; clear hw))
      go_ret2
      exact ⟨ret_float_float (by rw [EA.out, FIN.out]) (by rw [EB.out, FIN.out]), BL.out⟩
set_option maxHeartbeats 4000000 in
theorem halveL_c (c1 c2 : Value) (T : Int → Bool) (a b : Int) (W : World) (ha : -6867989431740006400 ≤ a) (hab : a < b) (hb : b ≤ 6867989431740006400) (hd : b - a ≤ 6867989431740006400)
    (hT : ∀ p : Int, a < p → p < b → ∀ w, Below W.heap.size W w → Calls Tryz.prog 33 #[.float .f64 (atW p), c1, c2] w fun e w' => e = .returned (.bool (T p)) ∧ Below w.heap.size w w') :
    Calls Tryz.prog 20 #[.int .i64 a, .int .i64 b, .func (.func 33) #[] #[c1, c2]] W fun e w' => e = .returned (.tuple #[.float .f64 (atW (hlv T 64 a b).1), .float .f64 (atW (hlv T 64 a b).2)]) ∧ Below W.heap.size W w' := by
  have HT := Lib.hid hT
  clear hT
  go_enter Tryz.func20, Tryz.ntmps20
  go_wp2
  go_loopw [0, 1] (fun v0 v1 wr => ∃ (p q : Int), v0 = .int .i64 p ∧ v1 = .int .i64 q ∧ a ≤ p ∧ p < q ∧ q ≤ b ∧ Hid (Below W.heap.size W wr ∧ ∃ n, q - p ≤ 2 ^ n ∧ n ≤ 64 ∧ hlv T n p q = hlv T 64 a b)) (fun v0 v1 _ => (intOf v1 - intOf v0).toNat)
  case atStart => exact ⟨a, b, rfl, rfl, by omega, by omega, by omega, Lib.hid ⟨Below.refl _ _, 64, by omega, by omega, rfl⟩⟩
  case round =>
    obtain ⟨p, q, rfl, rfl, h1, h2, h3, hq⟩ := hrel
    have w1 : wrap64 (q - p) = q - p := by unfold wrap64; omega
    by_cases hlt : 1 < q - p
    · obtain ⟨H, hH⟩ : ∃ H : Int, (q - p) / 2 = H := ⟨_, rfl⟩
      obtain ⟨M, hM⟩ : ∃ M : Int, p + H = M := ⟨_, rfl⟩
      have b1 : p < M := by omega
      have b2 : M < q := by omega
      have w2 : (q - p).tdiv 2 = H := by rw [Int.tdiv_eq_ediv_of_nonneg (by omega)]; exact hH
      have w3 : wrap64 H = H := by unfold wrap64; omega
      have w4 : wrap64 (p + H) = M := by unfold wrap64; omega
      have l1 : decide (1 < q - p) = true := decide_eq_true hlt
      have ea : atF M = atW M := by unfold atF; rw [if_pos (by rw [atOk_eq]; simp; omega)]
      have tc := HT.out M (by omega) (by omega) wr hq.out.1
      have ac := at_c M (by omega) (by omega)
      rw [ea] at ac
      have hm : ∃ n, hlv T 64 a b = (if T M then hlv T n p M else hlv T n M q) ∧ q - p ≤ 2 ^ (n + 1) ∧ n + 1 ≤ 64 := by
        obtain ⟨n, e1, e2, e3⟩ := hq.out.2
        cases n with
        | zero => simp at e1; omega
        | succ n =>
          refine ⟨n, ?_, e1, e2⟩
          rw [← e3]
          show (if 1 < q - p then _ else _) = _
          rw [if_pos hlt, hH, hM]
      have HM := Lib.hid hm
      have HMV := Lib.hid hM
      have HHV := Lib.hid hH
      have TC := Lib.hid tc
      have AC := Lib.hid ac
      have B1 := Lib.hid (And.intro b1 b2)
      have BL := Lib.hid hq.out.1
      clear hm hM hH tc ac b1 b2 ea hq hlt
      cases ht : T M
      all_goals
        have tc := TC.out
        have hm := HM.out
        rw [ht] at tc hm
        have TC2 := Lib.hid tc
        have HM2 := Lib.hid hm
        clear tc hm TC HM ht
        go_wp2_with (first
          | (go_at_call 38; (with_reducible refine (AC.out _).mono ?_); rintro e w' ⟨rfl, hw⟩; obtain rfl := hw.symm; clear hw)
          | (go_at_call 33; (with_reducible refine (TC2.out).mono ?_); rintro e w2 ⟨rfl, hb⟩; have HB2 := Lib.hid hb; clear hb))
        go_roundw
        case rel =>
          obtain ⟨n, e1, e2, e3⟩ := HM2.out
          have := B1.out; have := HHV.out; have := HMV.out
          rw [Int.pow_succ] at e2
          first
            | (rw [if_neg (by simp)] at e1
               exact ⟨M, q, rfl, rfl, by omega, by omega, by omega, Lib.hid ⟨bl_then BL.out HB2.out, n, by generalize (2 : Int) ^ n = z at *; omega, by omega, e1.symm⟩⟩)
            | (rw [if_pos trivial] at e1
               exact ⟨p, M, rfl, rfl, by omega, by omega, by omega, Lib.hid ⟨bl_then BL.out HB2.out, n, by generalize (2 : Int) ^ n = z at *; omega, by omega, e1.symm⟩⟩)
        case measure => have := B1.out; simp [intOf]; omega
    · have l1 : decide (1 < q - p) = false := decide_eq_false hlt
      have ea : atF p = atW p := by unfold atF; rw [if_pos (by rw [atOk_eq]; simp; omega)]
      have eb : atF q = atW q := by unfold atF; rw [if_pos (by rw [atOk_eq]; simp; omega)]
      have fin : hlv T 64 a b = (p, q) := by
        obtain ⟨n, e1, e2, e3⟩ := hq.out.2
        rw [← e3, hlv_stop T n hlt]
      have FIN := Lib.hid fin
      have EA := Lib.hid ea
      have EB := Lib.hid eb
      have BL := Lib.hid hq.out.1
      have ac := at_c p (by omega) (by omega)
      have ac2 := at_c q (by omega) (by omega)
      have AC := Lib.hid ac
      have AC2 := Lib.hid ac2
      clear fin ea eb hq hlt ac ac2
      go_wp2_with (first
        | (go_at_call 38; (first | (with_reducible refine (AC.out _).mono ?_) | (with_reducible refine (AC2.out _).mono ?_)); rintro e w' ⟨rfl, hw⟩; obtain rfl := hw.symm; clear hw))
      go_ret2
      exact ⟨ret_float_float (by rw [EA.out, FIN.out]) (by rw [EB.out, FIN.out]), BL.out⟩
end Go.Proofs.YtaedkekjekbjmaaGreatDoor

/- sturm.Find. -/
namespace Go.Proofs.YtaedkekjekbjmaaGreatDoor
open Go Go.RowKit Nv GFl
set_option maxRecDepth 100000
set_option linter.unusedSimpArgs false

theorem atW_r {p : Int} (h1 : -6867989431740006400 ≤ p) (h2 : p ≤ 6867989431740006400) : rg (atW p) = p.natAbs ∧ W64 (atW p) ∧ Bd 1577 (val (atW p)) := by
  have e : rg (atW p) = p.natAbs := by unfold atW; exact wd_rg (by omega)
  exact ⟨e, by unfold atW; exact wd_w (by omega), bd_x (by omega)⟩
/-- More than k are below the place. -/
def over (d o : List Nat) (k : Int) (p : Int) : Bool := decide (k < St.cnt (val (atW p)) (d.map val) (o.map val))
set_option maxHeartbeats 4000000 in
theorem find1_c (A B : Option Addr) (cA cB : Nat) (d o : List Nat) (k : Int) (p : Int) (bc bk : Nat) (W : World) (hd : Fl W A d) (ho : Fl W B o) (hA : d.length ≤ cA) (hB : o.length ≤ cB) (cd : ∀ x ∈ d, Cf x) (co : ∀ x ∈ o, Cf x) (hl : d.length = o.length + 1) (hn : d.length ≤ 64) (h1 : -6867989431740006400 ≤ p) (h2 : p ≤ 6867989431740006400) (hT : Tab W)
    (hc : W.heap[bc]? = some (.cells #[.slice A d.length cA, .slice B o.length cB] 24 (0, 0))) (hk : W.heap[bk]? = some (.cells #[.int .i64 k] 3 (0, 0))) :
    Calls Tryz.prog 18 #[.float .f64 (atW p), .pointer (some ⟨bc, 0, none⟩), .pointer (some ⟨bk, 0, none⟩)] W fun e w' => e = .returned (.bool (over d o k p)) ∧ Below W.heap.size W w' := by
  obtain ⟨e1, e2, e3⟩ := atW_r h1 h2
  have lw : ∀ w', Below W.heap.size W w' → Calls Tryz.prog 19 #[.agg #[.slice A d.length cA, .slice B o.length cB], .float .f64 (atW p)] w' fun e w'' => e = .returned (.int .i64 (St.cnt (val (atW p)) (d.map val) (o.map val))) ∧ Below w'.heap.size w' w'' := fun w' h => below_c A B cA cB d o (atW p) w' (hd.below h) (ho.below h) hA hB cd co hl hn e2 (by omega) e3 (hT.below h)
  have c0 := kb_cell hc (i := 0) rfl
  have c1 := kb_cell hc (i := 1) rfl
  have d0 := kb_cell hk (i := 0) rfl
  have LW := Lib.hid lw
  have HC := Lib.hid hc
  have HK0 := Lib.hid hk
  obtain ⟨N, hN⟩ : ∃ N, St.cnt (val (atW p)) (d.map val) (o.map val) = N := ⟨_, rfl⟩
  have ov : over d o k p = decide (k < N) := by unfold over; rw [hN]
  rw [hN] at LW
  rw [ov]
  clear hd ho hA hB cd co hl hn h1 h2 hT hc hk lw e1 e2 e3 ov hN
  go_enter Tryz.func18, Tryz.ntmps18
  go_wp2
  have hS : W.drew.cell? ⟨bc, 0, none⟩ = some (.slice A d.length cA) ∧ W.drew.cell? ⟨bc, 1, none⟩ = some (.slice B o.length cB) ∧ W.drew.cell? ⟨bk, 0, none⟩ = some (.int .i64 k) := ⟨c0, c1, d0⟩
  refine wp_region_G (g := 4) (S := fun w' => w'.cell? ⟨bc, 0, none⟩ = some (.slice A d.length cA) ∧ w'.cell? ⟨bc, 1, none⟩ = some (.slice B o.length cB) ∧ w'.cell? ⟨bk, 0, none⟩ = some (.int .i64 k)) (by kernel_rfl) ?_
  (refine wpG_ld (i := 0) 2 (v := ?_) rfl rfl (by kernel_rfl) (by kernel_rfl) (by kernel_rfl) (by kernel_rfl) (fun _ _ _ h => h) (Or.inl ⟨by rfl, ?_⟩) hS ?_; rotate_left; focus (intro w hSw; (try dsimp only at hSw); go_simp; first | done | with_reducible rfl | exact rfl)); (try simp only [Act.put, List.setIfInBounds_toArray, List.set_cons_zero, List.set_cons_succ, List.getElem_toArray, List.getElem_cons_zero, List.getElem_cons_succ])
  (refine wpG_take (i := 1) (v := ?_) rfl rfl (by kernel_rfl) (by kernel_rfl) (by kernel_rfl) (fun _ _ _ h => h) (Or.inl ⟨by rfl, fun w => ?_⟩) (Or.inr hS) ?_; rotate_left; focus (go_simp; first | done | with_reducible rfl | exact rfl)); (try simp only [Act.put, List.setIfInBounds_toArray, List.set_cons_zero, List.set_cons_succ, List.getElem_toArray, List.getElem_cons_zero, List.getElem_cons_succ])
  (refine wpG_ld (i := 3) 4 (v := ?_) rfl rfl (by kernel_rfl) (by kernel_rfl) (by kernel_rfl) (by kernel_rfl) (fun _ _ _ h => h) (Or.inl ⟨by rfl, ?_⟩) hS ?_; rotate_left; focus (intro w hSw; (try dsimp only at hSw); go_simp; first | done | with_reducible rfl | exact rfl)); (try simp only [Act.put, List.setIfInBounds_toArray, List.set_cons_zero, List.set_cons_succ, List.getElem_toArray, List.getElem_cons_zero, List.getElem_cons_succ])
  refine wpG_one (i := 2) (by kernel_rfl) rfl (fun K hK => ?_); have HK := Lib.hid hK; clear hK
  go_simp
  (with_reducible refine (LW.out _ (dr_below _)).mono ?_)
  rintro e w1 ⟨rfl, hb⟩
  have HB := Lib.hid ((dr_below W).trans hb)
  refine HK.out _ _ (Or.inr ⟨(hb.cell (p := ⟨bc, 0, none⟩) (kb_lt HC.out)).trans hS.1, (hb.cell (p := ⟨bc, 1, none⟩) (kb_lt HC.out)).trans hS.2.1, (hb.cell (p := ⟨bk, 0, none⟩) (kb_lt HK0.out)).trans hS.2.2⟩) ?_
  clear hb HK K hS
  (try simp only [Act.put, List.setIfInBounds_toArray, List.set_cons_zero, List.set_cons_succ, List.getElem_toArray, List.getElem_cons_zero, List.getElem_cons_succ])
  refine wpG_one (i := 4) (by kernel_rfl) rfl (fun K hK => ?_); have HK := Lib.hid hK; clear hK; go_simp; refine HK.out _ _ (Or.inl (by kernel_rfl)) ?_; clear HK K; (try simp only [Act.put, List.setIfInBounds_toArray, List.set_cons_zero, List.set_cons_succ, List.getElem_toArray, List.getElem_cons_zero, List.getElem_cons_succ])
  refine wpG_one (i := 5) (by kernel_rfl) rfl (fun K hK => ?_); have HK := Lib.hid hK; clear hK; go_simp; refine HK.out _ _ (Or.inl (by kernel_rfl)) ?_; clear HK K; (try simp only [Act.put, List.setIfInBounds_toArray, List.set_cons_zero, List.set_cons_succ, List.getElem_toArray, List.getElem_cons_zero, List.getElem_cons_succ])
  refine wpG_done (by kernel_rfl) ?_ _
  go_wp2
  go_ret
  exact ⟨rfl, HB.out⟩
def findP (d o : List Nat) (k : Int) : Int × Int := if over d o k 0 = true then hlv (over d o k) 64 (-6867989431740006400) 0 else hlv (over d o k) 64 0 6867989431740006400
/-- What Find answers. -/
def findE (d o : List Nat) (k : Int) : Int := if rightB d o = true then (if k < 0 then 2 else if (d.length : Int) ≤ k then 270 else 0) else 4
def findL (d o : List Nat) (k : Int) : Nat := if findE d o k = 0 then atW (findP d o k).1 else 0
def findH (d o : List Nat) (k : Int) : Nat := if findE d o k = 0 then atW (findP d o k).2 else 0
set_option maxHeartbeats 8000000 in
theorem find_c (A B : Option Addr) (cA cB : Nat) (d o : List Nat) (k : Int) (W : World) (hd : Fl W A d) (ho : Fl W B o) (hA : d.length ≤ cA) (hB : o.length ≤ cB) (wd : ∀ x ∈ d, W64 x) (wo : ∀ x ∈ o, W64 x) (hT : Tab W) :
    Calls Tryz.prog 7 #[.agg #[.slice A d.length cA, .slice B o.length cB], .int .i64 k] W fun e w' => e = .returned (.tuple #[.float .f64 (findL d o k), .float .f64 (findH d o k), .int .i64 (findE d o k)]) ∧ Below W.heap.size W w' := by
  have rc : ∀ w, Below W.heap.size W w → Calls Tryz.prog 5 #[.agg #[.slice A d.length cA, .slice B o.length cB]] w fun e w' => e = .returned (.bool (rightB d o)) ∧ Below w.heap.size w w' := fun w h => right_c A B cA cB d o w (hd.below h) (ho.below h) wd wo
  have BA := Lib.hid (((Below.refl W.heap.size W).alloc (Nat.le_refl _) (.cells #[.slice A d.length cA, .slice B o.length cB] 24)).alloc (by simp) (.cells #[.int .i64 k] 3))
  have KC : Hid (∀ w1, Below ((W.alloc (.cells #[.slice A d.length cA, .slice B o.length cB] 24)).alloc (.cells #[.int .i64 k] 3)).heap.size ((W.alloc (.cells #[.slice A d.length cA, .slice B o.length cB] 24)).alloc (.cells #[.int .i64 k] 3)) w1 → w1.heap[W.heap.size]? = some (.cells #[.slice A d.length cA, .slice B o.length cB] 24 (0, 0)) ∧ w1.heap[W.heap.size + 1]? = some (.cells #[.int .i64 k] 3 (0, 0))) := Lib.hid (fun w1 h => by
    refine ⟨kb_keep h (kb_alloc (kb_new (Below.refl _ _))), ?_⟩
    have := kb_new (w := W.alloc (.cells #[.slice A d.length cA, .slice B o.length cB] 24)) h
    simpa using this)
  have hl := hd.2.1
  by_cases he : findE d o k = 0
  · have hr : rightB d o = true := by unfold findE at he; by_cases h : rightB d o = true; exact h; rw [if_neg h] at he; cases he
    have hk1 : ¬ k < 0 := by unfold findE at he; rw [if_pos hr] at he; intro h; rw [if_pos h] at he; cases he
    have hk2 : ¬ (d.length : Int) ≤ k := by unfold findE at he; rw [if_pos hr, if_neg hk1] at he; intro h; rw [if_pos h] at he; cases he
    obtain ⟨r1, r2, r3, r4, r5⟩ := rightB_d hr
    have fc : ∀ w, Below W.heap.size W w → ∀ p : Int, -6867989431740006400 ≤ p → p ≤ 6867989431740006400 → ∀ bc bk, w.heap[bc]? = some (.cells #[.slice A d.length cA, .slice B o.length cB] 24 (0, 0)) → w.heap[bk]? = some (.cells #[.int .i64 k] 3 (0, 0)) → Calls Tryz.prog 18 #[.float .f64 (atW p), .pointer (some ⟨bc, 0, none⟩), .pointer (some ⟨bk, 0, none⟩)] w fun e w' => e = .returned (.bool (over d o k p)) ∧ Below w.heap.size w w' := fun w h p h1 h2 bc bk hc hk => find1_c A B cA cB d o k p bc bk w (hd.below h) (ho.below h) hA hB (fun y hy => ⟨wd y hy, r4 y hy⟩) (fun y hy => ⟨wo y hy, r5 y hy⟩) (by omega) r2 h1 h2 (hT.below h) hc hk
    rw [hr] at rc
    have RC := Lib.hid rc
    have FC := Lib.hid fc
    have el : findL d o k = atW (findP d o k).1 := if_pos he
    have eh : findH d o k = atW (findP d o k).2 := if_pos he
    have EL := Lib.hid el
    have EH := Lib.hid eh
    have HE := Lib.hid he
    have k1 : decide (k < 0) = false := decide_eq_false hk1
    have k2 : decide ((d.length : Int) ≤ k) = false := decide_eq_false hk2
    have pf : placeF 6867989431740006400 = 6867989431740006400 := by decide
    have pn : isn 6867989431740006400 = false := by decide
    have pc := place_c 6867989431740006400 (w_const (by decide))
    rw [pf, pn] at pc
    have PC := Lib.hid pc
    have z0 : atW 0 = 0 := by decide
    have Z0 := Lib.hid z0
    clear rc fc el eh he hr hk1 hk2 hd ho hA hB wd wo hT r1 r2 r3 r4 r5 pf pn pc z0
    cases hov : over d o k 0
    all_goals
      have HOV := Lib.hid hov
      clear hov
      go_enter Tryz.func7, Tryz.ntmps7
      go_wp2_with (first
        | (go_at_call 5; (with_reducible refine (RC.out _ BA.out).mono ?_); rintro e w1 ⟨rfl, hb⟩
           obtain ⟨bc, bk⟩ := KC.out w1 hb
           have cc0 := kb_cell bc (i := 0) rfl
           have cc1 := kb_cell bc (i := 1) rfl
           have dd0 := kb_cell bk (i := 0) rfl
           have BC := Lib.hid bc
           have BK := Lib.hid bk
           have HB := Lib.hid (BA.out.trans (hb.mono (by simp; omega))); clear hb bc bk)
        | (go_at_call 17; (with_reducible refine (PC.out _).mono ?_); rintro e w' ⟨rfl, hw⟩; obtain rfl := hw.symm; clear hw)
        | (go_at_call 18; have fz := FC.out _ HB.out 0 (by decide) (by decide) _ _ BC.out BK.out; rw [Z0.out, HOV.out] at fz; (with_reducible refine fz.mono ?_); clear fz; rintro e w2 ⟨rfl, hb⟩
           have BC2 := Lib.hid (kb_keep hb BC.out)
           have BK2 := Lib.hid (kb_keep hb BK.out)
           have HB2 := Lib.hid (bl_then HB.out hb); clear hb)
        | (go_at_call 20; (with_reducible refine (halveF_c _ _ (over d o k) _ _ _ (by decide) (by decide) (by decide) (by decide) ?_).mono ?_)
           · intro p h1 h2 w hb
             exact FC.out w (bl_then HB2.out hb) p (by omega) (by omega) _ _ (kb_keep hb BC2.out) (kb_keep hb BK2.out)
           rintro e w3 ⟨rfl, hb⟩
           have HB3 := Lib.hid (bl_then HB2.out hb); clear hb))
      refine bodyPost_ret (v := .tuple #[.float .f64 (findL d o k), .float .f64 (findH d o k), .int .i64 (findE d o k)]) (by simp [results, Tryz.results7, go_sem, EL.out, EH.out, HE.out, findP, HOV.out]) rfl ⟨rfl, HB3.out⟩
  · have el : findL d o k = 0 := if_neg he
    have eh : findH d o k = 0 := if_neg he
    have EL := Lib.hid el
    have EH := Lib.hid eh
    cases hr : rightB d o
    · have ee : findE d o k = 4 := by unfold findE; rw [if_neg (by rw [hr]; simp)]
      rw [hr] at rc
      have RC := Lib.hid rc
      have EE := Lib.hid ee
      clear rc hr ee el eh hd ho hA hB wd wo hT he KC
      go_enter Tryz.func7, Tryz.ntmps7
      go_wp2_with (first
        | (go_at_call 5; (with_reducible refine (RC.out _ BA.out).mono ?_); rintro e w1 ⟨rfl, hb⟩; have HB := Lib.hid (BA.out.trans (hb.mono (by simp; omega))); clear hb))
      refine bodyPost_ret (v := .tuple #[.float .f64 (findL d o k), .float .f64 (findH d o k), .int .i64 (findE d o k)]) (by simp [results, Tryz.results7, go_sem, EL.out, EH.out, EE.out]) rfl ⟨rfl, HB.out⟩
    · have ee : findE d o k = if k < 0 then 2 else if (d.length : Int) ≤ k then 270 else 0 := by unfold findE; rw [if_pos hr]
      rw [ee] at he
      rw [hr] at rc
      have RC := Lib.hid rc
      by_cases hk1 : k < 0
      · rw [if_pos hk1] at ee
        have EE := Lib.hid ee
        have k1 : decide (k < 0) = true := decide_eq_true hk1
        clear rc hr ee el eh hd ho hA hB wd wo hT he hk1
        go_enter Tryz.func7, Tryz.ntmps7
        go_wp2_with (first
          | (go_at_call 5; (with_reducible refine (RC.out _ BA.out).mono ?_); rintro e w1 ⟨rfl, hb⟩
             obtain ⟨bc, bk⟩ := KC.out w1 hb
             have cc0 := kb_cell bc (i := 0) rfl
             have cc1 := kb_cell bc (i := 1) rfl
             have dd0 := kb_cell bk (i := 0) rfl
             have HB := Lib.hid (BA.out.trans (hb.mono (by simp; omega))); clear hb bc bk))
        refine bodyPost_ret (v := .tuple #[.float .f64 (findL d o k), .float .f64 (findH d o k), .int .i64 (findE d o k)]) (by simp [results, Tryz.results7, go_sem, EL.out, EH.out, EE.out]) rfl ⟨rfl, HB.out⟩
      · rw [if_neg hk1] at ee he
        have hk2 : (d.length : Int) ≤ k := by
          apply Classical.byContradiction
          intro h
          rw [if_neg h] at he; exact absurd rfl he
        rw [if_pos hk2] at ee
        have EE := Lib.hid ee
        have k1 : decide (k < 0) = false := decide_eq_false hk1
        have k2 : decide ((d.length : Int) ≤ k) = true := decide_eq_true hk2
        clear rc hr ee el eh hd ho hA hB wd wo hT he hk1 hk2
        go_enter Tryz.func7, Tryz.ntmps7
        go_wp2_with (first
          | (go_at_call 5; (with_reducible refine (RC.out _ BA.out).mono ?_); rintro e w1 ⟨rfl, hb⟩
             obtain ⟨bc, bk⟩ := KC.out w1 hb
             have cc0 := kb_cell bc (i := 0) rfl
             have cc1 := kb_cell bc (i := 1) rfl
             have dd0 := kb_cell bk (i := 0) rfl
             have HB := Lib.hid (BA.out.trans (hb.mono (by simp; omega))); clear hb bc bk))
        refine bodyPost_ret (v := .tuple #[.float .f64 (findL d o k), .float .f64 (findH d o k), .int .i64 (findE d o k)]) (by simp [results, Tryz.results7, go_sem, EL.out, EH.out, EE.out]) rfl ⟨rfl, HB.out⟩
end Go.Proofs.YtaedkekjekbjmaaGreatDoor

/- What Find answers stands between the counts (plain). -/
namespace Go.Proofs.YtaedkekjekbjmaaGreatDoor
open Go Nv GFl
set_option maxRecDepth 100000


theorem p2_pos (n : Nat) : 0 < p2 n := by rw [p2_def]; exact Nat.two_pow_pos n
end Go.Proofs.YtaedkekjekbjmaaGreatDoor

/- sturm.Least. -/
namespace Go.Proofs.YtaedkekjekbjmaaGreatDoor
open Go Go.RowKit Nv GFl Ieee
set_option maxRecDepth 100000
set_option linter.unusedSimpArgs false

theorem chord_c (A B : Option Addr) (cA cB : Nat) (p l : List Nat) (s : Nat) (W : World) (hp : Fl W A p) (hl : Fl W B l) (wp : ∀ x ∈ p, W64 x) (wl : ∀ x ∈ l, W64 x) (hs : W64 s) :
    Calls Tryz.prog 32 #[.slice A p.length cA, .slice B l.length cB, .float .f64 s] W (ChP W p l s) := by
  cases h : shpB p l
  · exact chord_no A B cA cB p l s W hp hl h
  · exact chord_yes A B cA cB p l s W hp hl wp wl hs h
/-- What a chord that is not refused stands on. -/
structure Gd (P L : List Nat) (S : Nat) : Prop where
  n : 1 ≤ P.length ∧ P.length ≤ 64 ∧ L.length = P.length + 1
  p : ∀ x ∈ P, Bt x
  l : ∀ x ∈ L, Bt x
  s : Ps S
theorem gd_of {p l : List Nat} {s : Nat} (wp : ∀ x ∈ p, W64 x) (wl : ∀ x ∈ l, W64 x) (hs : W64 s) (h : chordE p l s = 0) : Gd p l s := by
  unfold chordE at h
  by_cases h1 : shpB p l = true
  · rw [if_pos h1] at h
    by_cases h2 : cfin p l s = true
    · rw [if_pos h2] at h
      by_cases h3 : cgood p l s = true
      · unfold cgood at h3
        unfold shpB at h1
        simp only [Bool.and_eq_true, List.all_eq_true, decide_eq_true_eq] at h3 h1
        exact ⟨h1, fun x hx => btw_of (wp x hx) (h3.1.2 x hx), fun x hx => btw_of (wl x hx) (h3.2 x hx), psh_of hs h3.1.1⟩
      · rw [if_neg h3] at h; cases h
    · rw [if_neg h2] at h; cases h
  · rw [if_neg h1] at h; cases h
theorem bt_btw {x : Nat} (h : Bt x) : btwB x = true ∧ finB x = true := by
  have h1 := h.lo
  have h2 := h.hi
  have e : plc x = rg x := by rw [plc_eq, h.n]; rfl
  have e2 : isn x = false := by rw [isn_eq]; simp; omega
  unfold btwB finB
  rw [e, e2]
  simp; omega
theorem ps_psh {x : Nat} (h : Ps x) : pshB x = true ∧ finB x = true := by
  have h2 := h.hi
  have e2 : isn x = false := by rw [isn_eq]; simp; omega
  unfold pshB finB
  rw [h.pos, e2]
  simp; omega
theorem gd_mk {p l : List Nat} {s : Nat} (h : Gd p l s) : chordE p l s = 0 := by
  have h1 : shpB p l = true := by unfold shpB; exact decide_eq_true h.n
  have h2 : cfin p l s = true := by
    unfold cfin
    rw [(ps_psh h.s).2, List.all_eq_true.2 (fun x hx => (bt_btw (h.p x hx)).2), List.all_eq_true.2 (fun x hx => (bt_btw (h.l x hx)).2)]; rfl
  have h3 : cgood p l s = true := by
    unfold cgood
    rw [(ps_psh h.s).1, List.all_eq_true.2 (fun x hx => (bt_btw (h.p x hx)).1), List.all_eq_true.2 (fun x hx => (bt_btw (h.l x hx)).1)]; rfl
  unfold chordE
  rw [if_pos h1, if_pos h2, if_pos h3]
theorem Gd.push {p l : List Nat} {s t : Nat} (h : Gd p l s) (ht : Ps t) : Gd p l t := ⟨h.n, h.p, h.l, ht⟩
theorem cf_of {x : Nat} (h : Nn x) {E : Nat} (h2 : rg x ≤ E * B52) (hE : E ≤ 1523) : Cf x := ⟨h.w, by
  have : E * B52 ≤ 1523 * B52 := Nat.mul_le_mul_right _ hE
  have e : 1523 * B52 = 6858982232485265408 := by decide
  omega⟩
theorem ch_cf {p l : List Nat} {s : Nat} (h : Gd p l s) : (∀ x ∈ chD p l s, Cf x) ∧ (∀ x ∈ chO p l s, Cf x) ∧ (chD p l s).length = p.length ∧ (chO p l s).length + 1 = p.length := by
  have h0 := gd_mk h
  have hn := h.n
  unfold chD chO
  rw [if_pos h0, if_pos h0, chDk_len, chOk_len]
  refine ⟨fun x hx => ?_, fun x hx => ?_, rfl, by omega⟩
  · unfold chDk at hx
    obtain ⟨i, hi, rfl⟩ := List.mem_map.1 hx
    have hi := List.mem_range.1 hi
    have i1 : i < p.length := hi
    have i2 : i < l.length := by omega
    have i3 : i + 1 < l.length := by omega
    rw [List.getD_eq_getElem?_getD, List.getD_eq_getElem?_getD, List.getD_eq_getElem?_getD, List.getElem?_eq_getElem i1, List.getElem?_eq_getElem i2, List.getElem?_eq_getElem i3]
    obtain ⟨x1, x2, x3, _⟩ := quo_ok h.s (h.l _ (List.getElem_mem i2))
    obtain ⟨y1, y2, y3, _⟩ := quo_ok h.s (h.l _ (List.getElem_mem i3))
    obtain ⟨z1, z2, z3⟩ := add_ok x2 y2 x3 y3
    obtain ⟨t1, t2, t3⟩ := dif_ok (h.p _ (List.getElem_mem i1)) z2 z3
    exact cf_of t2 t3 (by omega)
  · unfold chOk at hx
    obtain ⟨i, hi, rfl⟩ := List.mem_map.1 hx
    have hi := List.mem_range.1 hi
    have i3 : i + 1 < l.length := by omega
    rw [List.getD_eq_getElem?_getD, List.getElem?_eq_getElem i3]
    obtain ⟨y1, y2, y3, _⟩ := quo_ok h.s (h.l _ (List.getElem_mem i3))
    exact cf_of y2 y3 (by omega)
/-- Does it give way? -/
def gvB (p l : List Nat) (s : Nat) : Bool := decide (0 < St.cnt 0 ((chD p l s).map val) ((chO p l s).map val))
theorem gv_zero {p l : List Nat} {s : Nat} (h : Gd p l s) (h0 : rg s = 0) : gvB p l s = false := by
  have hn := h.n
  unfold gvB
  apply decide_eq_false
  have hz : ∀ y ∈ (chO p l s).map val, y = 0 := by
    intro y hy
    obtain ⟨x, hx, rfl⟩ := List.mem_map.1 hy
    unfold chO at hx
    rw [if_pos (gd_mk h)] at hx
    unfold chOk at hx
    obtain ⟨i, hi, rfl⟩ := List.mem_map.1 hx
    have hi := List.mem_range.1 hi
    have i3 : i + 1 < l.length := by omega
    rw [List.getD_eq_getElem?_getD, List.getElem?_eq_getElem i3]
    exact val_rg0 (z_quo h.s h0 (h.l _ (List.getElem_mem i3))).1
  rw [St.cnt_zeros 0 _ _ hz]
  have : (((chD p l s).map val).filter fun a => decide (a < 0)) = [] := by
    rw [List.filter_eq_nil_iff]
    intro y hy
    obtain ⟨x, hx, rfl⟩ := List.mem_map.1 hy
    unfold chD at hx
    rw [if_pos (gd_mk h)] at hx
    unfold chDk at hx
    obtain ⟨i, hi, rfl⟩ := List.mem_map.1 hx
    have hi := List.mem_range.1 hi
    have i1 : i < p.length := hi
    have i2 : i < l.length := by omega
    have i3 : i + 1 < l.length := by omega
    rw [List.getD_eq_getElem?_getD, List.getD_eq_getElem?_getD, List.getD_eq_getElem?_getD, List.getElem?_eq_getElem i1, List.getElem?_eq_getElem i2, List.getElem?_eq_getElem i3]
    obtain ⟨x1, x2⟩ := z_quo h.s h0 (h.l _ (List.getElem_mem i2))
    obtain ⟨y1, y2⟩ := z_quo h.s h0 (h.l _ (List.getElem_mem i3))
    obtain ⟨z1, z2⟩ := z_add x2 y2 x1 y1
    have e := z_sub (h.p _ (List.getElem_mem i1)) z2 z1
    show ¬ decide (val (fsub p[i] (fadd (fdiv s l[i]) (fdiv s l[i + 1]))) < 0) = true
    rw [e, val_eq', (h.p _ (List.getElem_mem i1)).n]
    simp
  rw [this]; simp
set_option maxHeartbeats 4000000 in
theorem least1_c (A B : Option Addr) (cA cB : Nat) (p l : List Nat) (s : Nat) (bp bl : Nat) (W : World) (hp : Fl W A p) (hl : Fl W B l) (h : Gd p l s) (hT : Tab W)
    (h1 : W.heap[bp]? = some (.cells #[.slice A p.length cA] 22 (0, 0))) (h2 : W.heap[bl]? = some (.cells #[.slice B l.length cB] 22 (0, 0))) :
    Calls Tryz.prog 33 #[.float .f64 s, .pointer (some ⟨bp, 0, none⟩), .pointer (some ⟨bl, 0, none⟩)] W fun e w' => e = .returned (.bool (gvB p l s)) ∧ Below W.heap.size W w' := by
  have cc := chord_c A B cA cB p l s W hp hl (fun x hx => (h.p x hx).w) (fun x hx => (h.l x hx).w) h.s.w
  have CC := Lib.hid cc
  have E0 := Lib.hid (gd_mk h)
  have CF := Lib.hid (ch_cf h)
  have HN := Lib.hid h.n
  have HT := Lib.hid hT
  have c0 := kb_cell h1 (i := 0) rfl
  have c1 := kb_cell h2 (i := 0) rfl
  clear cc hp hl h hT h1 h2
  go_enter Tryz.func33, Tryz.ntmps33
  go_wp2_with (first
    | (go_at_call 32; (with_reducible refine (CC.out).mono ?_); rintro e w1 ⟨vD, vO, rfl, hD, hO, hb⟩
       obtain ⟨AD, nD, rfl, hnD, fD⟩ := ow_sl hD
       obtain ⟨AO, nO, rfl, hnO, fO⟩ := ow_sl hO
       have HB := Lib.hid hb
       have FD := Lib.hid fD
       have FO := Lib.hid fO
       have ND := Lib.hid hnD
       have NO := Lib.hid hnO
       clear hD hO hb fD fO hnD hnO)
    | (go_at_call 19
       (with_reducible refine (below_c AD AO nD nO (chD p l s) (chO p l s) 0 _ (FD.out.below ((Below.refl _ _).alloc (Nat.le_refl _) _)) (FO.out.below ((Below.refl _ _).alloc (Nat.le_refl _) _)) ND.out NO.out CF.out.1 CF.out.2.1 (by have := CF.out.2.2; omega) (by have := CF.out.2.2; have := HN.out; omega) (w_const (by decide)) (by decide) (bd_x (by decide)) (HT.out.below (HB.out.trans ((Below.refl _ _).alloc HB.out.size _)))).mono ?_)
       rintro e w2 ⟨rfl, hb⟩
       have HB2 := Lib.hid (bl_then (HB.out.alloc HB.out.size _) hb)
       clear hb))
  go_ret
  exact ⟨ret_bool (by unfold gvB; rw [show val 0 = 0 by decide]), HB2.out⟩
/-- What Least answers. -/
def leastE (p l : List Nat) (s : Nat) : Int := if chordE p l s = 0 then (if gvB p l s = true then 0 else 270) else chordE p l s
def leastP (p l : List Nat) (s : Nat) : Int × Int := hlv (fun q => gvB p l (atW q)) 64 0 (plc s)
def leastL (p l : List Nat) (s : Nat) : Nat := if leastE p l s = 0 then atW (leastP p l s).1 else 0
def leastH (p l : List Nat) (s : Nat) : Nat := if leastE p l s = 0 then atW (leastP p l s).2 else 0
theorem atW_ps {q : Int} (h0 : 0 ≤ q) (h1 : q ≤ 4877398396442247168) : Ps (atW q) := by
  have e : rg (atW q) = q.natAbs := by unfold atW; exact wd_rg (by omega)
  have e2 : neg (atW q) = false := by unfold atW; rw [wd_neg (by omega)]; simp; omega
  refine ⟨by unfold atW; exact wd_w (by omega), by omega, ?_⟩
  rw [plc_eq, e2]; rfl
set_option maxHeartbeats 8000000 in
theorem least_c (A B : Option Addr) (cA cB : Nat) (p l : List Nat) (s : Nat) (W : World) (hp : Fl W A p) (hl : Fl W B l) (wp : ∀ x ∈ p, W64 x) (wl : ∀ x ∈ l, W64 x) (hs : W64 s) (hT : Tab W) :
    Calls Tryz.prog 14 #[.slice A p.length cA, .slice B l.length cB, .float .f64 s] W fun e w' => e = .returned (.tuple #[.float .f64 (leastL p l s), .float .f64 (leastH p l s), .int .i64 (leastE p l s)]) ∧ Below W.heap.size W w' := by
  have cc : ∀ w, Below W.heap.size W w → Calls Tryz.prog 32 #[.slice A p.length cA, .slice B l.length cB, .float .f64 s] w (ChP w p l s) := fun w h => chord_c A B cA cB p l s w (hp.below h) (hl.below h) wp wl hs
  have CC := Lib.hid cc
  have BA := Lib.hid (((Below.refl W.heap.size W).alloc (Nat.le_refl _) (.cells #[.slice A p.length cA] 22)).alloc (by simp) (.cells #[.slice B l.length cB] 22))
  have KC : Hid (∀ w1, Below ((W.alloc (.cells #[.slice A p.length cA] 22)).alloc (.cells #[.slice B l.length cB] 22)).heap.size ((W.alloc (.cells #[.slice A p.length cA] 22)).alloc (.cells #[.slice B l.length cB] 22)) w1 → w1.heap[W.heap.size]? = some (.cells #[.slice A p.length cA] 22 (0, 0)) ∧ w1.heap[W.heap.size + 1]? = some (.cells #[.slice B l.length cB] 22 (0, 0))) := Lib.hid (fun w1 h => by
    refine ⟨kb_keep h (kb_alloc (kb_new (Below.refl _ _))), ?_⟩
    have := kb_new (w := W.alloc (.cells #[.slice A p.length cA] 22)) h
    simpa using this)
  by_cases he : chordE p l s = 0
  · have gd := gd_of wp wl hs he
    have lc : ∀ t, Ps t → ∀ w, Below W.heap.size W w → ∀ bp bl, w.heap[bp]? = some (.cells #[.slice A p.length cA] 22 (0, 0)) → w.heap[bl]? = some (.cells #[.slice B l.length cB] 22 (0, 0)) → Calls Tryz.prog 33 #[.float .f64 t, .pointer (some ⟨bp, 0, none⟩), .pointer (some ⟨bl, 0, none⟩)] w fun e w' => e = .returned (.bool (gvB p l t)) ∧ Below w.heap.size w w' := fun t ht w h bp bl h1 h2 => least1_c A B cA cB p l t bp bl w (hp.below h) (hl.below h) (gd.push ht) (hT.below h) h1 h2
    have LC := Lib.hid lc
    have HE := Lib.hid he
    have GS := Lib.hid gd.s
    have pz : rg s = 0 → gvB p l s = false := gv_zero gd
    have PZ := Lib.hid pz
    have pc := place_c s hs
    have pf : placeF s = plc s := placeF_f (by rw [isn_eq]; have := gd.s.hi; simp; omega)
    have pn : isn s = false := by rw [isn_eq]; have := gd.s.hi; simp; omega
    rw [pf, pn] at pc
    have PC := Lib.hid pc
    clear cc lc pz pc pf pn gd hp hl wp wl hs hT
    cases hg : gvB p l s
    · have le : leastE p l s = 270 := by unfold leastE; rw [if_pos HE.out, hg]; rfl
      have LE := Lib.hid le
      have LL : Hid (leastL p l s = 0) := Lib.hid (if_neg (by rw [le]; decide))
      have LH : Hid (leastH p l s = 0) := Lib.hid (if_neg (by rw [le]; decide))
      clear le PZ PC
      go_enter Tryz.func14, Tryz.ntmps14
      go_wp2_with (first
        | (go_at_call 32; (with_reducible refine (CC.out _ BA.out).mono ?_); rintro e w1 ⟨vD, vO, rfl, hD, hO, hb⟩
           obtain ⟨AD, nD, rfl, _, _⟩ := ow_sl hD
           obtain ⟨AO, nO, rfl, _, _⟩ := ow_sl hO
           obtain ⟨bp, bl⟩ := KC.out w1 hb
           have cc0 := kb_cell bp (i := 0) rfl
           have cc1 := kb_cell bl (i := 0) rfl
           have ce := HE.out
           rw [ce]
           have BP := Lib.hid bp
           have BL := Lib.hid bl
           have HB := Lib.hid (BA.out.trans (hb.mono (by simp; omega)))
           clear hD hO hb bp bl ce)
        | (go_at_call 33; (with_reducible refine (LC.out s GS.out _ ?h1 _ _ ?h2 ?h3).mono ?_)
           case h1 => exact HB.out.alloc HB.out.size _
           case h2 => exact kb_alloc BP.out
           case h3 => exact kb_alloc BL.out
           rintro e w2 ⟨rfl, hb⟩
           have BP2 := Lib.hid (kb_keep hb (kb_alloc BP.out))
           have BL2 := Lib.hid (kb_keep hb (kb_alloc BL.out))
           have HB2 := Lib.hid (bl_then (HB.out.alloc HB.out.size _) hb); clear hb))
      refine bodyPost_ret (v := .tuple #[.float .f64 (leastL p l s), .float .f64 (leastH p l s), .int .i64 (leastE p l s)]) (by simp [results, Tryz.results14, go_sem, LL.out, LH.out, LE.out]) rfl ⟨rfl, HB2.out⟩
    · have le : leastE p l s = 0 := by unfold leastE; rw [if_pos HE.out, hg]; rfl
      have LE := Lib.hid le
      have LL : Hid (leastL p l s = atW (leastP p l s).1) := Lib.hid (if_pos le)
      have LH : Hid (leastH p l s = atW (leastP p l s).2) := Lib.hid (if_pos le)
      have hpos : 0 < plc s := by
        rw [GS.out.pos]
        rcases Nat.eq_zero_or_pos (rg s) with h | h
        · rw [PZ.out h] at hg; cases hg
        · omega
      have htop : plc s ≤ 4877398396442247168 := by rw [GS.out.pos]; have := GS.out.hi; omega
      have HP0 := Lib.hid (And.intro hpos htop)
      clear le PZ hpos htop
      go_enter Tryz.func14, Tryz.ntmps14
      go_wp2_with (first
        | (go_at_call 32; (with_reducible refine (CC.out _ BA.out).mono ?_); rintro e w1 ⟨vD, vO, rfl, hD, hO, hb⟩
           obtain ⟨AD, nD, rfl, _, _⟩ := ow_sl hD
           obtain ⟨AO, nO, rfl, _, _⟩ := ow_sl hO
           obtain ⟨bp, bl⟩ := KC.out w1 hb
           have cc0 := kb_cell bp (i := 0) rfl
           have cc1 := kb_cell bl (i := 0) rfl
           have ce := HE.out
           rw [ce]
           have BP := Lib.hid bp
           have BL := Lib.hid bl
           have HB := Lib.hid (BA.out.trans (hb.mono (by simp; omega)))
           clear hD hO hb bp bl ce)
        | (go_at_call 33; (with_reducible refine (LC.out s GS.out _ ?h1 _ _ ?h2 ?h3).mono ?_)
           case h1 => exact HB.out.alloc HB.out.size _
           case h2 => exact kb_alloc BP.out
           case h3 => exact kb_alloc BL.out
           rintro e w2 ⟨rfl, hb⟩
           have BP2 := Lib.hid (kb_keep hb (kb_alloc BP.out))
           have BL2 := Lib.hid (kb_keep hb (kb_alloc BL.out))
           have HB2 := Lib.hid (bl_then (HB.out.alloc HB.out.size _) hb); clear hb)
        | (go_at_call 17; (with_reducible refine (PC.out _).mono ?_); rintro e w' ⟨rfl, hw⟩; obtain rfl := hw.symm; clear hw)
        | (go_at_call 20; (with_reducible refine (halveL_c _ _ (fun q => gvB p l (atW q)) _ _ _ (by decide) HP0.out.1 (by have := HP0.out.2; omega) (by have := HP0.out.2; omega) ?_).mono ?_)
           · intro q h1 h2 w hb
             exact LC.out _ (atW_ps (by omega) (by have := HP0.out.2; omega)) w (bl_then HB2.out hb) _ _ (kb_keep hb BP2.out) (kb_keep hb BL2.out)
           rintro e w3 ⟨rfl, hb⟩
           have HB3 := Lib.hid (bl_then HB2.out hb); clear hb))
      refine bodyPost_ret (v := .tuple #[.float .f64 (leastL p l s), .float .f64 (leastH p l s), .int .i64 (leastE p l s)]) (by simp [results, Tryz.results14, go_sem, LL.out, LH.out, LE.out, leastP]) rfl ⟨rfl, HB3.out⟩
  · have le : leastE p l s = chordE p l s := by unfold leastE; rw [if_neg he]
    have LL : Hid (leastL p l s = 0) := Lib.hid (if_neg (by rw [le]; exact he))
    have LH : Hid (leastH p l s = 0) := Lib.hid (if_neg (by rw [le]; exact he))
    have LE := Lib.hid le
    obtain ⟨E, hE⟩ : ∃ E, chordE p l s = E := ⟨_, rfl⟩
    have k0 : (E != 0) = true := by rw [← hE]; simpa using he
    have HE := Lib.hid hE
    clear cc hp hl wp wl hs hT he le KC hE
    go_enter Tryz.func14, Tryz.ntmps14
    go_wp2_with (first
      | (go_at_call 32; (with_reducible refine (CC.out _ BA.out).mono ?_); rintro e w1 ⟨vD, vO, rfl, hD, hO, hb⟩
         obtain ⟨AD, nD, rfl, _, _⟩ := ow_sl hD
         obtain ⟨AO, nO, rfl, _, _⟩ := ow_sl hO
         have ce := HE.out
         rw [ce]
         have HB := Lib.hid (BA.out.trans (hb.mono (by simp; omega)))
         clear hD hO hb ce))
    refine bodyPost_ret (v := .tuple #[.float .f64 (leastL p l s), .float .f64 (leastH p l s), .int .i64 (leastE p l s)]) (by simp [results, Tryz.results14, go_sem, LL.out, LH.out, LE.out, HE.out]) rfl ⟨rfl, HB.out.alloc HB.out.size _⟩
end Go.Proofs.YtaedkekjekbjmaaGreatDoor
