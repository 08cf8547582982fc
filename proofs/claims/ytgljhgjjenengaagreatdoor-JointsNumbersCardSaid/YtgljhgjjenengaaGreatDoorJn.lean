/- What joints' named answers. -/
import Derived.Test.YtgljhgjjenengaaGreatDoorK
import Derived.Laws.RangeAny
import Derived.LoopTactic
namespace Go.Proofs.YtgljhgjjenengaaGreatDoor
open Go Go.RowKit
set_option maxRecDepth 100000

/-- A byte that may stand at a place of a name. -/
def okAt (s : ByteArray) (i : Nat) : Bool := if h : i < s.size then decide ((97 ≤ (s[i]'h).toNat ∧ (s[i]'h).toNat ≤ 122) ∨ (48 ≤ (s[i]'h).toNat ∧ (s[i]'h).toNat ≤ 57 ∧ 0 < i)) else false
def nmB (s : ByteArray) : Bool := decide (0 < s.size ∧ s.size ≤ 8) && (List.range s.size).all (okAt s)
theorem nm_no {s : ByteArray} {p : Nat} (hp : p < s.size) (h : okAt s p = false) : nmB s = false := by
  unfold nmB
  rw [Bool.and_eq_false_iff]
  right
  rw [List.all_eq_false]
  exact ⟨p, List.mem_range.2 hp, by rw [h]; simp⟩
theorem size0 {s : ByteArray} : s.toList = [] ↔ s.size = 0 := by
  constructor
  · intro h
    have : s.toList.length = s.size := by rw [ByteArray.toList_eq]; simp
    rw [h] at this; simpa using this.symm
  · intro h
    have : s.toList.length = s.size := by rw [ByteArray.toList_eq]; simp
    exact List.eq_nil_of_length_eq_zero (by omega)
theorem named_c (s : ByteArray) (hm : s.size ≤ 9223372036854775807) (w : World) :
    Calls Tryz.prog 19 #[.string s] w fun e w' => e = .returned (.bool (nmB s)) ∧ Below w.heap.size w w' := by
  by_cases h0 : s.size = 0
  · have e : s.toList = [] := size0.2 h0
    have ev : nmB s = false := by unfold nmB; simp [h0]
    have EV := Lib.hid ev
    clear ev h0
    go_enter Tryz.func19, Tryz.ntmps19
    go_wp2
    go_ret
    exact ⟨ret_bool EV.out.symm, by repeat' (first | (with_reducible exact Below.refl _ _) | (with_reducible refine bl_alloc ?_ _) | (with_reducible refine bl_drewN ?_ _) | (with_reducible refine bl_drew ?_) | (with_reducible refine bl_set ?_ _ (by simp)))⟩
  · have e : (s.toList == []) = false := by rw [beq_eq_false_iff_ne]; exact fun h => h0 (size0.1 h)
    have e2 : s.toList.isEmpty = false := by rw [List.isEmpty_eq_false_iff]; exact fun h => h0 (size0.1 h)
    by_cases h8 : 8 < s.size
    · have ev : nmB s = false := by unfold nmB; simp; omega
      have EV := Lib.hid ev
      clear ev h0
      go_enter Tryz.func19, Tryz.ntmps19
      go_wp2
      go_ret
      exact ⟨ret_bool EV.out.symm, by repeat' (first | (with_reducible exact Below.refl _ _) | (with_reducible refine bl_alloc ?_ _) | (with_reducible refine bl_drewN ?_ _) | (with_reducible refine bl_drew ?_) | (with_reducible refine bl_set ?_ _ (by simp)))⟩
    · have h8' : s.size ≤ 8 := by omega
      go_enter Tryz.func19, Tryz.ntmps19
      go_wp2
      go_loopw [3] (fun _ wr => ∃ p : Nat, p ≤ s.size ∧ wr = w.iter s p ∧ Hid (∀ i, i < p → okAt s i = true)) (fun _ wr => s.size - wr.iterPos w.heap.size)
      case atStart => exact ⟨0, Nat.zero_le _, rfl, fun i hi => absurd hi (by omega)⟩
      case round =>
        obtain ⟨p, hp, rfl, ha⟩ := hrel
        by_cases hlt : p < s.size
        · by_cases hlow : (s[p]'hlt).toNat < 128
          · have hnx := fun ty => run_next_ascii (P := Tryz.prog) w s p ty hlt hlow
            have oe : okAt s p = decide ((97 ≤ (s[p]'hlt).toNat ∧ (s[p]'hlt).toNat ≤ 122) ∨ (48 ≤ (s[p]'hlt).toNat ∧ (s[p]'hlt).toNat ≤ 57 ∧ 0 < p)) := by unfold okAt; rw [dif_pos hlt]
            have OE := Lib.hid oe
            have NO := Lib.hid (nm_no hlt)
            clear oe
            generalize (s[p]'hlt).toNat = c at *
            go_wp2
            all_goals first
              | (go_ret; exact ⟨ret_bool (NO.out (by rw [OE.out]; simp; omega)).symm, by unfold World.iter; repeat' (first | (with_reducible exact Below.refl _ _) | (with_reducible refine bl_alloc ?_ _) | (with_reducible refine bl_drewN ?_ _) | (with_reducible refine bl_drew ?_) | (with_reducible refine bl_set ?_ _ (by simp)))⟩)
              | (go_roundw
                 case rel =>
                   refine ⟨p + 1, by omega, rfl, fun i hi => ?_⟩
                   rcases Nat.lt_or_eq_of_le (Nat.le_of_lt_succ hi) with h | h
                   · exact ha.out i h
                   · subst h; rw [OE.out]; simp; omega
                 case measure => simp; omega)
          · have hnx := fun ty => run_next_any (P := Tryz.prog) w s p ty hlt
            have hd := decode_high s p hlt (by omega)
            have hdl := decode_le s p
            have oe : okAt s p = false := by unfold okAt; rw [dif_pos hlt]; simp; omega
            have EV := Lib.hid (nm_no hlt oe)
            clear oe
            generalize (Utf8.decode s p).1 = c at *
            generalize (Utf8.decode s p).2 = d at *
            go_wp2
            go_ret
            exact ⟨ret_bool EV.out.symm, by unfold World.iter; repeat' (first | (with_reducible exact Below.refl _ _) | (with_reducible refine bl_alloc ?_ _) | (with_reducible refine bl_drewN ?_ _) | (with_reducible refine bl_drew ?_) | (with_reducible refine bl_set ?_ _ (by simp)))⟩
        · have hnx := fun ty => run_next_end (P := Tryz.prog) w s p ty hlt
          have : p = s.size := by omega
          subst this
          go_wp2
          go_ret
          refine ⟨ret_bool ?_, by unfold World.iter; repeat' (first | (with_reducible exact Below.refl _ _) | (with_reducible refine bl_alloc ?_ _) | (with_reducible refine bl_drewN ?_ _) | (with_reducible refine bl_drew ?_) | (with_reducible refine bl_set ?_ _ (by simp)))⟩
          unfold nmB
          symm
          rw [Bool.and_eq_true]
          exact ⟨by simp; omega, List.all_eq_true.2 fun i hi => ha.out i (List.mem_range.1 hi)⟩
end Go.Proofs.YtgljhgjjenengaaGreatDoor
