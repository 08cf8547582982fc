/- girderlaw18.JointsFinds answers true for any list and any name. -/
import Derived.Test.YtgljhgjjenengaaDoorJC
import Derived.Test.YtgljhgjjenengaaDoorXJt5
namespace Go.Proofs.YtgljhgjjenengaaDoor.XJt
open Go Go.RowKit Go.Proofs.YtgljhgjjenengaaDoorW.PrintWords Go.Proofs.YtgljhgjjenengaaDoorW.PrintMore
set_option maxRecDepth 100000

theorem finds_l0 (l : List S33) (nm : ByteArray) (hB : l.length ≤ 4611686018427387904) : ∀ d i k, i + d = l.length → d < k → ∃ r1 r2, joints_Find.l0 k l nm (l.length : Int) (i : Int) = some (r1, r2) ∧ girderref18_Find.l0 k l nm (i : Int) = some (r1, r2) := by
  intro d
  induction d with
  | zero =>
    intro i k e hk
    obtain ⟨k, rfl⟩ : ∃ m, k = m + 1 := ⟨k - 1, by omega⟩
    simp only [joints_Find.l0, girderref18_Find.l0]
    rw [if_neg (by omega), if_neg (by omega)]
    exact ⟨_, _, rfl, rfl⟩
  | succ d ih =>
    intro i k e hk
    obtain ⟨k, rfl⟩ : ∃ m, k = m + 1 := ⟨k - 1, by omega⟩
    have hi0 : (0 : Int) ≤ (i : Int) := by omega
    have hi1 : (i : Int) < (l.length : Int) := by omega
    simp only [joints_Find.l0, girderref18_Find.l0, if_pos hi0, if_pos hi1]
    rw [w64_nat (by omega)]
    by_cases h : (rd_T33 l (i : Int)).f0.toList = nm.toList
    · rw [if_pos h, if_pos h]; exact ⟨_, _, rfl, rfl⟩
    · rw [if_neg h, if_neg h]; exact ih (i + 1) k (by omega) (by omega)
theorem finds_f (l : List S33) (nm : ByteArray) (hB : l.length ≤ 4611686018427387904) : ∃ r1 r2, joints_Find.f (l.length + 1) l nm = some (r1, r2) ∧ girderref18_Find.f (l.length + 1) l nm = some (r1, r2) :=
  finds_l0 l nm hB l.length 0 (l.length + 1) (by omega) (by omega)
end Go.Proofs.YtgljhgjjenengaaDoor.XJt
namespace Go.Proofs.YtgljhgjjenengaaDoor
open Go Go.RowKit
open Go.Proofs.YtgljhgjjenengaaDoorW.PrintWords (Kd own_move Kd.C_below Drawn0)
open XJt (S33 k33 okJb rd_T33 at_T33)
set_option maxRecDepth 100000

theorem jointsFinds_c {W : World} (A : Option Addr) (c : Nat) (l : List S33) (nm : ByteArray) (hl : l.length ≤ c) (hC : Kd.C k33 W A l.length l) (_ : l.all okJb = true) (hA : A = none → c = 0 ∧ l = []) (hB : l.length * 32 ≤ 140737488351232) :
    Calls Tryd.prog 4 #[.slice A l.length c, .string nm] W fun e w' => e = .returned (.bool true) ∧ Below W.heap.size W w' := by
  have cL := lent_c A c l hC hA hB
  have HC := Lib.hid hC
  have HL := Lib.hid hl
  have HB := Lib.hid hB
  have hBl : l.length ≤ 4611686018427387904 := by omega
  obtain ⟨r1, r2, hf, hg⟩ := XJt.finds_f l nm hBl
  have HF := Lib.hid hf
  have HG := Lib.hid hg
  clear hC hl hB hA hf hg
  go_enter Tryd.func4, Tryd.ntmps4
  go_wp2_with (first
    | (go_at_call 8; refine cL.mono ?_; rintro e w1 ⟨g, rfl, hg, hown, hb1⟩
       have K1 := Lib.hid (lent_reads (marks_len 12) (by have := HB.out; omega) hown)
       have C1 := Lib.hid (Kd.C_below HC.out hb1)
       have BB := Lib.hid hb1
       clear hown hb1 hg cL)
    | (go_at_call 13; refine (XJt.joints_Find.calls (l.length + 1) _ (l.length + 12) l nm r1 r2 _ K1.out.1 (by omega) HF.out).mono ?_; rintro e w2 ⟨rfl, hd2⟩
       have hb2 := hd2.below
       have K2 := Lib.hid (show Kd.C k33 w2 (some ⟨g, 0, none⟩) l.length l ∧ Kd.C k33 w2 (some ⟨g, 0, none⟩) (l ++ marks 12).length (l ++ marks 12) from ⟨Kd.C_below K1.out.1 hb2, Kd.C_below K1.out.2 hb2⟩)
       have C2 := Lib.hid (Kd.C_below C1.out hb2)
       replace BB := Lib.hid (bl_then BB.out hb2)
       clear hb2 hd2 K1 C1)
    | (go_at_call 14; refine (XJt.girderref18_Find.calls (l.length + 1) A c l nm r1 r2 _ C2.out HL.out HG.out).mono ?_; rintro e w3 ⟨rfl, hd3⟩
       have hb3 := hd3.below
       have K3 := Lib.hid (show Kd.C k33 w3 (some ⟨g, 0, none⟩) l.length l ∧ Kd.C k33 w3 (some ⟨g, 0, none⟩) (l ++ marks 12).length (l ++ marks 12) from ⟨Kd.C_below K2.out.1 hb3, Kd.C_below K2.out.2 hb3⟩)
       have C3 := Lib.hid (Kd.C_below C2.out hb3)
       replace BB := Lib.hid (bl_then BB.out hb3)
       clear hb3 hd3 K2 C2))
  have X := Lib.hid (And.intro K3.out (And.intro C3.out BB.out))
  clear K3 C3 BB HF HG
  go_loopw [10] (fun v wr => ∃ k : Nat, v = .int .i64 k ∧ k ≤ l.length ∧ k ≤ 100 ∧ Hid ((Kd.C k33 wr (some ⟨g, 0, none⟩) l.length l ∧ Kd.C k33 wr (some ⟨g, 0, none⟩) (l ++ marks 12).length (l ++ marks 12)) ∧ Kd.C k33 wr A l.length l ∧ Below W.heap.size W wr)) (fun v _ => 100 - (intOf v).toNat)
  case atStart => exact ⟨0, rfl, by omega, by omega, X.out⟩
  case round =>
    obtain ⟨k, rfl, hk, hk1, hx⟩ := hrel
    have Y := Lib.hid (show (Kd.C k33 wr (some ⟨g, 0, none⟩) l.length l ∧ Kd.C k33 wr (some ⟨g, 0, none⟩) (l ++ marks 12).length (l ++ marks 12)) ∧ Kd.C k33 wr A l.length l ∧ Below W.heap.size W wr from hx)
    clear hx X
    by_cases hlt : k < l.length
    · by_cases hlc : k < 100
      · obtain ⟨ad, e, h0, _⟩ := at_T33 Y.out.2.1 (k : Int) (by omega) (by omega)
        subst e
        rw [Int.toNat_natCast] at h0
        generalize (rd_T33 l (k : Int)).f0 = s at *
        obtain ⟨q1, q2, hf, hg⟩ := XJt.finds_f l s hBl
        have HF := Lib.hid hf
        have HG := Lib.hid hg
        clear hf hg
        go_wp2_with (first
          | (go_at_call 13; refine (XJt.joints_Find.calls (l.length + 1) _ (l.length + 12) l s q1 q2 _ Y.out.1.1 (by omega) HF.out).mono ?_; rintro e w2 ⟨rfl, hd2⟩
             have hb2 := hd2.below
             replace h0 := Go.Proofs.YtgljhgjjenengaaDoorW.PrintWords.pw_cell_below hb2 h0
             have Z := Lib.hid (show (Kd.C k33 w2 (some ⟨g, 0, none⟩) l.length l ∧ Kd.C k33 w2 (some ⟨g, 0, none⟩) (l ++ marks 12).length (l ++ marks 12)) ∧ Kd.C k33 w2 (some ad) l.length l ∧ Below W.heap.size W w2 from ⟨⟨Kd.C_below Y.out.1.1 hb2, Kd.C_below Y.out.1.2 hb2⟩, Kd.C_below Y.out.2.1 hb2, bl_then Y.out.2.2 hb2⟩)
             clear hb2 hd2 Y)
          | (go_at_call 14; refine (XJt.girderref18_Find.calls (l.length + 1) _ c l s q1 q2 _ Z.out.2.1 HL.out HG.out).mono ?_; rintro e w3 ⟨rfl, hd3⟩
             have hb3 := hd3.below
             have V := Lib.hid (show (Kd.C k33 w3 (some ⟨g, 0, none⟩) l.length l ∧ Kd.C k33 w3 (some ⟨g, 0, none⟩) (l ++ marks 12).length (l ++ marks 12)) ∧ Kd.C k33 w3 (some ad) l.length l ∧ Below W.heap.size W w3 from ⟨⟨Kd.C_below Z.out.1.1 hb3, Kd.C_below Z.out.1.2 hb3⟩, Kd.C_below Z.out.2.1 hb3, bl_then Z.out.2.2 hb3⟩)
             clear hb3 hd3 Z))
        go_roundw
        case rel => exact ⟨k + 1, by go_num, by omega, by omega, V.out⟩
        case measure => simp [intOf]; omega
      · go_wp2_with (first
          | (go_at_call 11; refine (XJt.kept_wide (l.length + 13) _ (l.length + 12) A c l (l ++ marks 12) true _ Y.out.2.1 HL.out Y.out.1.2 (by rw [List.length_append, marks_len]; omega) (by rw [List.length_append, marks_len]) (XJt.kept_pure l hBl (l.length + 12) 0 _ (by omega) (by omega))).mono ?_; rintro e w4 ⟨rfl, hb4⟩
             have BB := Lib.hid (bl_then Y.out.2.2 hb4)
             clear hb4)
          | (go_at_call 12; refine (awake_c _).mono ?_; rintro e w5 ⟨rfl, hb5⟩
             replace BB := Lib.hid (bl_then BB.out hb5)
             clear hb5))
        go_ret
        exact ⟨rfl, BB.out⟩
    · go_wp2_with (first
        | (go_at_call 11; refine (XJt.kept_wide (l.length + 13) _ (l.length + 12) A c l (l ++ marks 12) true _ Y.out.2.1 HL.out Y.out.1.2 (by rw [List.length_append, marks_len]; omega) (by rw [List.length_append, marks_len]) (XJt.kept_pure l hBl (l.length + 12) 0 _ (by omega) (by omega))).mono ?_; rintro e w4 ⟨rfl, hb4⟩
           have BB := Lib.hid (bl_then Y.out.2.2 hb4)
           clear hb4)
        | (go_at_call 12; refine (awake_c _).mono ?_; rintro e w5 ⟨rfl, hb5⟩
           replace BB := Lib.hid (bl_then BB.out hb5)
           clear hb5))
      go_ret
      exact ⟨rfl, BB.out⟩
end Go.Proofs.YtgljhgjjenengaaDoor
