/- girderlaw18.JointsChecks answers true for any list. -/
import Derived.Test.YtgljhgjjenengaaDoorJr
import Derived.Test.YtgljhgjjenengaaDoorJs
namespace Go.Proofs.YtgljhgjjenengaaDoor
open Go Go.RowKit
open Go.Proofs.YtgljhgjjenengaaDoorW.PrintWords (Kd own_move Kd.C_below)
open XJt (S33 k33 okJb)
set_option maxRecDepth 100000

/-- What a lent list reads as. -/
theorem lent_reads {w : World} {B g : Nat} {l m : List S33} (hm : m.length = 12) (hx : l.length + 12 ≤ 9223372036854775807) (h : w.ownsRow B 33 4 (.slice (some ⟨g, 0, none⟩) (l.length + 12) (l.length + 12)) (l.length + 12) ((l ++ m).flatMap jc)) :
    Kd.C k33 w (some ⟨g, 0, none⟩) l.length l ∧ Kd.C k33 w (some ⟨g, 0, none⟩) (l ++ m).length (l ++ m) := by
  have hlm : (l ++ m).length = l.length + 12 := by rw [List.length_append, hm]
  rcases h.2 with ⟨h0, _⟩ | ⟨g', cap, cur, hv, _, hb, _, _, hs, ht⟩
  · cases h0
  · simp only [Value.slice.injEq, Option.some.injEq, Addr.mk.injEq] at hv
    obtain ⟨⟨rfl, _⟩, _, rfl⟩ := hv
    have hc : cur = ((l ++ m).flatMap jc).toArray := by
      rw [← ht, List.take_of_length_le (by simp; omega)]
    rw [hc] at hb
    exact ⟨C_blk (by omega) hb, C_blk (l := l ++ m) (m := []) (by omega) (by rw [List.append_nil]; exact hb)⟩
theorem jointsChecks_c {W : World} (A : Option Addr) (c : Nat) (l : List S33) (hl : l.length ≤ c) (hC : Kd.C k33 W A l.length l) (ho : l.all okJb = true) (hA : A = none → c = 0 ∧ l = []) (hB : l.length * 32 ≤ 140737488351232) :
    Calls Tryd.prog 3 #[.slice A l.length c] W fun e w' => e = .returned (.bool true) ∧ Below W.heap.size W w' := by
  obtain ⟨⟨r1, r2⟩, hr⟩ : ∃ r, XJt.joints_Check.f l = some r := by unfold XJt.joints_Check.f; rw [if_pos ho]; split <;> exact ⟨_, rfl⟩
  have cL := lent_c A c l hC hA hB
  have HC := Lib.hid hC
  have HL := Lib.hid hl
  have HR := Lib.hid hr
  have HO := Lib.hid ho
  have HB := Lib.hid hB
  clear hC hl hr ho hB hA
  go_enter Tryd.func3, Tryd.ntmps3
  go_wp2_with (first
    | (go_at_call 8; refine cL.mono ?_; rintro e w1 ⟨g, rfl, hg, hown, hb1⟩
       have K1 := Lib.hid (lent_reads (marks_len 12) (by have := HB.out; omega) hown)
       have C1 := Lib.hid (Kd.C_below HC.out hb1)
       have BB := Lib.hid hb1
       clear hown hb1 hg cL)
    | (go_at_call 9; refine (XJt.joints_Check.calls _ (l.length + 12) l r1 r2 _ K1.out.1 (by omega) HR.out).mono ?_; rintro e w2 ⟨rfl, hb2⟩
       have K2 := Lib.hid (Kd.C_below K1.out.2 hb2)
       have C2 := Lib.hid (Kd.C_below C1.out hb2)
       replace BB := Lib.hid (bl_then BB.out hb2)
       clear hb2)
    | (go_at_call 10; refine (XJt.girderref18_Check.calls 400 A c l r1 r2 _ C2.out HL.out ((XJt.ref_check l HO.out).trans HR.out)).mono ?_; rintro e w3 ⟨rfl, hb3⟩
       have K3 := Lib.hid (Kd.C_below K2.out hb3)
       have C3 := Lib.hid (Kd.C_below C2.out hb3)
       replace BB := Lib.hid (bl_then BB.out hb3)
       clear hb3)
    | (go_at_call 11; refine (XJt.kept_wide (l.length + 13) _ (l.length + 12) A c l (l ++ marks 12) true _ C3.out HL.out K3.out (by rw [List.length_append, marks_len]; omega) (by rw [List.length_append, marks_len]) (XJt.kept_pure l (by have := HB.out; omega) (l.length + 12) 0 _ (by omega) (by omega))).mono ?_; rintro e w4 ⟨rfl, hb4⟩
       replace BB := Lib.hid (bl_then BB.out hb4)
       clear hb4)
    | (go_at_call 12; refine (awake_c _).mono ?_; rintro e w5 ⟨rfl, hb5⟩
       replace BB := Lib.hid (bl_then BB.out hb5)
       clear hb5))
  go_ret
  exact ⟨rfl, BB.out⟩
end Go.Proofs.YtgljhgjjenengaaDoor
