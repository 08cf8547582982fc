/- What joints' Check answers. -/
import Derived.Test.YtgljhgjjenengaaGreatDoorJk
import Derived.Test.YtgljhgjjenengaaGreatDoorXJt0
import Derived.Deep.DrawnRows
namespace Go.Proofs.YtgljhgjjenengaaGreatDoor
open Go Go.RowKit Go.Maps Go.WideMaps
open Go.Proofs.YtgljhgjjenengaaGreatDoorW.PrintWords (Kd)
open XJt (S23 k23 z23 rd_T23 at_T23)
set_option maxRecDepth 100000

def okJ (j : S23) : Prop := j.f0.size ≤ 9223372036854775807 ∧ (Lit.int .i32 j.f1).wf = true ∧ (Lit.int .i32 j.f2).wf = true
/-- May a joint not stand behind those that were seen? -/
def badJ (seen : List S23) (j : S23) : Bool := (seen.any fun s => decide (s.f0 = j.f0)) || (seen.any fun s => decide (s.f1 = j.f1 ∧ s.f2 = j.f2)) || !nmB j.f0 || !(nearB j.f1 && nearB j.f2) || decide (7 < j.f3)
def chkL : List S23 → List S23 → Int × Int
  | _, [] => (0, 0)
  | seen, j :: r => if badJ seen j then (280, seen.length) else chkL (seen ++ [j]) r
def nmV (j : S23) : Value := .string j.f0
def ptV (j : S23) : Value := .agg #[.int .i32 j.f1, .int .i32 j.f2]
theorem mem_nm {j : S23} {l : List S23} : nmV j ∈ l.map nmV ↔ (l.any fun s => decide (s.f0 = j.f0)) = true := by
  simp [nmV, List.any_eq_true]
theorem mem_pt {j : S23} {l : List S23} : ptV j ∈ l.map ptV ↔ (l.any fun s => decide (s.f1 = j.f1 ∧ s.f2 = j.f2)) = true := by
  simp [ptV, List.any_eq_true]
theorem rd_drop {l : List S23} {k : Nat} (h : k < l.length) : l.drop k = rd_T23 l (k : Int) :: l.drop (k + 1) := by
  rw [List.drop_eq_getElem_cons h]
  congr 1
  simp [rd_T23, h]
theorem rd_mem {l : List S23} {k : Nat} (h : k < l.length) : rd_T23 l (k : Int) ∈ l := by
  unfold rd_T23
  rw [Int.toNat_natCast, List.getD_eq_getElem?_getD, List.getElem?_eq_getElem h]
  exact List.getElem_mem h
theorem rd_take {l : List S23} {k : Nat} (h : k < l.length) : l.take (k + 1) = l.take k ++ [rd_T23 l (k : Int)] := by
  rw [List.take_succ_eq_append_getElem h]
  simp [rd_T23, h]

theorem check_c (A : Option Addr) (c : Nat) (l : List S23) (w : World) (hr : Kd.C k23 w A l.length l) (hok : ∀ j ∈ l, okJ j) (hl : l.length ≤ 16) :
    Calls Tryz.prog 12 #[.slice A l.length c] w fun e w' => e = .returned (.tuple #[.int .i64 (chkL [] l).1, .int .i64 (chkL [] l).2]) ∧ Below w.heap.size w w' := by
  have hmm := @run_makeMap Tryz.prog
  have HR := Lib.hid hr
  have HO := Lib.hid hok
  clear hr hok
  go_enter Tryz.func12, Tryz.ntmps12
  go_wp2
  go_loopw [19] (fun i wr => ∃ k : Nat, k ≤ l.length ∧ i = .int .i64 k ∧ KeysIn wr Tryz.prog 9 3 w.heap.size k ((l.take k).map nmV) ∧ KeysIn wr Tryz.prog 51 3 (w.heap.size + 1) k ((l.take k).map ptV) ∧ Below w.heap.size w wr ∧ Hid (chkL [] l = chkL (l.take k) (l.drop k))) (fun i _ => l.length - (intOf i).toNat)
  case atStart => exact ⟨0, Nat.zero_le _, rfl, (KeysIn.made w Tryz.prog 9 3).alloc _, by simpa using KeysIn.made (w.alloc (.map #[] 0)) Tryz.prog 51 3, by repeat' (first | (with_reducible exact Below.refl _ _) | (with_reducible refine bl_alloc ?_ _) | (with_reducible refine bl_drewN ?_ _) | (with_reducible refine bl_drew ?_) | (with_reducible refine bl_set ?_ _ (by simp))), rfl⟩
  case round =>
    obtain ⟨k, hk, rfl, K1, K2, hb, HC⟩ := hrel
    by_cases hlt : k < l.length
    · obtain ⟨ad, e, h0, h1, h2, h3⟩ := at_T23 (Kd.C_below HR.out hb) (k : Int) (by omega) (by omega)
      have hj := HO.out _ (rd_mem hlt)
      have DR := Lib.hid (rd_drop hlt)
      have TK := Lib.hid (rd_take hlt)
      subst e
      simp only [Int.toNat_natCast] at h0 h1 h2 h3
      generalize rd_T23 l (k : Int) = j at *
      obtain ⟨s, x, y, f⟩ := j
      dsimp only at h0 h1 h2 h3
      obtain ⟨o1, o2, o3⟩ := hj
      dsimp only at o1 o2 o3
      obtain ⟨kn, hkn⟩ := jk_name (s := s) o1
      obtain ⟨kp, hkp⟩ := jk_key o2 o3
      obtain ⟨c1, q1, r1, e1⟩ := (K1.alloc (.cells #[.string s, .int .i32 x, .int .i32 y, .int .u8 f] 23)).look jk_names Tryz.underlying49 Tryz.underlying3 jk_zero hkn
      obtain ⟨c2, q2, r2, e2⟩ := (K2.alloc (.cells #[.string s, .int .i32 x, .int .i32 y, .int .u8 f] 23)).look jk_pts Tryz.underlying50 Tryz.underlying3 jk_zero hkp
      have a1 : ((l.take k).any fun s' => decide (s'.f0 = s)) = q1 := by
        rw [Bool.eq_iff_iff, e1]; exact (mem_nm (j := ⟨s, x, y, f⟩)).symm
      have a2 : ((l.take k).any fun s' => decide (s'.f1 = x ∧ s'.f2 = y)) = q2 := by
        rw [Bool.eq_iff_iff, e2]; exact (mem_pt (j := ⟨s, x, y, f⟩)).symm
      obtain ⟨nb, hnb⟩ : ∃ nb, (nearB x && nearB y) = nb := ⟨_, rfl⟩
      have bd : badJ (l.take k) ⟨s, x, y, f⟩ = (q1 || q2 || !nmB s || !nb || decide (7 < f)) := by unfold badJ; rw [a1, a2, hnb]
      have bad : (q1 || q2 || !nmB s || !nb || decide (7 < f)) = true → chkL [] l = (280, (k : Int)) := by
        intro h
        rw [HC.out, DR.out, chkL, bd, if_pos h, List.length_take, Nat.min_eq_left hk]
      have good : (q1 || q2 || !nmB s || !nb || decide (7 < f)) = false → chkL [] l = chkL (l.take (k + 1)) (l.drop (k + 1)) := by
        intro h
        rw [HC.out, DR.out, chkL, bd, if_neg (by rw [h]; simp), TK.out]
      have BAD := Lib.hid bad
      have GOOD := Lib.hid good
      have nr : ∀ (w : World) (b : Nat), b = w.heap.size → Calls Tryz.prog 13 #[.slice (some ⟨b, 0, none⟩) 2 2] (w.alloc (.cells #[.int .i32 x, .int .i32 y] 21)) fun e w' => e = .returned (.bool nb) ∧ w.alloc (.cells #[.int .i32 x, .int .i32 y] 21) = w' := fun w b hb => hb ▸
        (near_c w.heap.size [x, y] (by simp) (w.alloc (.cells #[.int .i32 x, .int .i32 y] 21)) (fun k hk => by
          have h : k = 0 ∨ k = 1 := by simp at hk; omega
          rcases h with rfl | rfl
          · exact kb_cell (w := w.alloc (.cells #[.int .i32 x, .int .i32 y] 21)) Array.getElem?_push_size rfl
          · exact kb_cell (w := w.alloc (.cells #[.int .i32 x, .int .i32 y] 21)) Array.getElem?_push_size rfl)).mono fun _ _ h => ⟨by rw [h.1, ← hnb]; simp, h.2⟩
      have KN := Lib.hid hkn
      have KP := Lib.hid hkp
      have KK1 := Lib.hid K1
      have KK2 := Lib.hid K2
      have HBH := Lib.hid hb
      clear e1 e2 hkn hkp K1 K2 a1 a2 hnb bd bad good hb
      go_wp2_with (first
        | (go_at_call 19; refine (named_c s o1 _).mono ?_; rintro e w1 ⟨rfl, hb1⟩; have pj := kb_new hb1; have g0 := kb_cell (i := 0) pj rfl; have g1 := kb_cell (i := 1) pj rfl; have g2 := kb_cell (i := 2) pj rfl; have g3 := kb_cell (i := 3) pj rfl; have hz := kb_lt pj; have PJ := Lib.hid pj; have HB1 := Lib.hid hb1; clear pj hb1)
        | (go_at_call 13; refine (nr _ _ (by simp)).mono ?_; rintro e w2 ⟨rfl, rfl⟩))
      all_goals first
        | (go_ret2; refine ⟨by rw [BAD.out (by simp [*])]; rfl, ?_⟩; first | exact bl_alloc HBH.out _ | exact bl_alloc (bl_then (bl_alloc HBH.out _) HB1.out) _ | exact bl_then (bl_alloc HBH.out _) HB1.out)
        | skip
      have GD := Lib.hid (GOOD.out (by simp [*]))
      clear BAD GOOD nr
      have k1 := ((KK1.out.alloc (.cells #[.string s, .int .i32 x, .int .i32 y, .int .u8 f] 23)).below HB1.out).alloc (.cells #[.int .i32 x, .int .i32 y] 21)
      have k2 := ((KK2.out.alloc (.cells #[.string s, .int .i32 x, .int .i32 y, .int .u8 f] 23)).below HB1.out).alloc (.cells #[.int .i32 x, .int .i32 y] 21)
      have wk : (Lit.int .i64 (k : Int)).wf = true := WalkArith.wf_i64 (by omega)
      obtain ⟨W3, s1, k3, G1⟩ := (k1.drew).store jk_names Tryz.underlying49 Tryz.underlying3 (by unfold maxLen; omega) KN.out wk
      have hlw : w.heap.size + 1 < wr.heap.size := KK2.out.lt
      have hgz : w1.heap.size < W3.heap.size := Nat.lt_of_lt_of_le (by simp) G1.size
      have q3 : W3.heap[wr.heap.size]? = some (.cells #[.string s, .int .i32 x, .int .i32 y, .int .u8 f] 23 (0, 0)) :=
        (G1.block wr.heap.size (by simp; omega) (by simp; omega)).trans (kb_alloc PJ.out)
      have k4 := (k2.drew).kept G1 (by simp)
      obtain ⟨W4, s2, k5, G2⟩ := k4.store jk_pts Tryz.underlying50 Tryz.underlying3 (by unfold maxLen; omega) KP.out wk
      have p1 : W3.cell? ⟨wr.heap.size, 1, none⟩ = some (.int .i32 x) := kb_cell q3 rfl
      have p2 : W3.cell? ⟨wr.heap.size, 2, none⟩ = some (.int .i32 y) := kb_cell q3 rfl
      have k6 := k3.kept G2 (by simp)
      have bb : Below w.heap.size w W4 := by
        have b1 := bl_alloc (bl_then (bl_alloc HBH.out (.cells #[.string s, .int .i32 x, .int .i32 y, .int .u8 f] 23)) HB1.out) (.cells #[.int .i32 x, .int .i32 y] 21)
        have b2 := (bl_drew b1).grown G1 b1.size (fun j hj => by cases hj; exact Nat.le_refl _)
        exact b2.grown G2 b2.size (fun j hj => by cases hj; omega)
      have BB := Lib.hid bb
      have K5 := Lib.hid k5
      have K6 := Lib.hid k6
      have e1 : (l.take k).map nmV ++ [Value.string s] = (l.take (k + 1)).map nmV := by rw [TK.out]; simp [nmV]
      have e2 : (l.take k).map ptV ++ [Value.agg #[Value.int IntKind.i32 x, Value.int IntKind.i32 y]] = (l.take (k + 1)).map ptV := by rw [TK.out]; simp [ptV]
      have EE1 := Lib.hid e1
      have EE2 := Lib.hid e2
      clear e1 e2 bb k5 k6 k1 k2 k3 k4 q3 G1 G2
      go_region
      all_goals
        go_wp2
        go_roundw
        case rel => exact ⟨k + 1, by omega, by go_num, by rw [← EE1.out]; exact K6.out, by rw [← EE2.out]; exact K5.out, BB.out, GD.out⟩
        case measure => simp [intOf]; omega
    · have : k = l.length := by omega
      subst this
      go_wp2
      go_ret2
      have := HC.out
      rw [List.drop_length] at this
      exact ⟨by rw [this]; rfl, hb⟩
end Go.Proofs.YtgljhgjjenengaaGreatDoor
