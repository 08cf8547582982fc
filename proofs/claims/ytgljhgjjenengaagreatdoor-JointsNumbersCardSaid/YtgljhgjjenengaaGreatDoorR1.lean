/- What the small functions of package round answer: signs, steps, what is settled. -/
import Derived.Test.YtgljhgjjenengaaGreatDoorB1
import Derived.Test.YtgljhgjjenengaaGreatDoorK
import Derived.Test.YtgljhgjjenengaaGreatDoorS2
import Derived.Deep.DeepCutAuto
import Derived.Deep.LoopGhost
import Derived.Deep.CutBlock
namespace Go.Proofs.YtgljhgjjenengaaGreatDoor
open Go Go.RowKit GFl
set_option maxRecDepth 100000
attribute [local go_sem] run_f64frombits run_neg_f64

/-- Neither NaN nor an infinity. -/
def fin (x : Nat) : Bool := decide (rg x < 9218868437227405312)
theorem fin_t {x : Nat} (h : rg x < 9218868437227405312) : fin x = true := by unfold fin; simp [h]
theorem fin_f {x : Nat} (h : 9218868437227405312 ≤ rg x) : fin x = false := by unfold fin; simp; omega
theorem fin_isn {x : Nat} (h : fin x = true) : isn x = false := by unfold fin at h; rw [isn_eq]; simp at h ⊢; omega
/-- A float's sign as a number (0 of NaN). -/
def sgI (x : Nat) : Int := if isn x then 0 else if 0 < plc x then 1 else if plc x < 0 then -1 else 0

theorem gt0 {x : Nat} (hx : W64 x) : (FloatKind.f64.format.order x 0 == some .gt) = (!isn x && decide (0 < plc x)) := by
  rw [t_gt hx (w_const (by decide)), isn0, plc0]; simp
theorem lt0 {x : Nat} (hx : W64 x) : (FloatKind.f64.format.order x 0 == some .lt) = (!isn x && decide (plc x < 0)) := by
  rw [t_lt hx (w_const (by decide)), isn0, plc0]; simp
theorem eq0 {x : Nat} (hx : W64 x) : (FloatKind.f64.format.order x 0 == some .eq) = (!isn x && decide (plc x = 0)) := by
  rw [t_eq hx (w_const (by decide)), isn0, plc0]; simp
theorem le0 {x : Nat} (hx : W64 x) : (FloatKind.f64.format.order x 0 == some .lt || FloatKind.f64.format.order x 0 == some .eq) = (!isn x && decide (plc x ≤ 0)) := by
  rw [t_le hx (w_const (by decide)), isn0, plc0]; simp
theorem sign_c (x : Nat) (hx : W64 x) (w : World) : Calls Tryz.prog 25 #[.float .f64 x] w fun e w' => e = .returned (.int .i64 (sgI x)) ∧ w = w' := by
  have k1 := gt0 hx
  have k2 := lt0 hx
  unfold sgI
  cases hn : isn x <;> rw [hn] at k1 k2
  · rcases Int.lt_trichotomy (plc x) 0 with h | h | h
    · rw [if_neg (by simp), if_neg (by omega), if_pos h]
      rw [decide_eq_false (by omega)] at k1
      rw [decide_eq_true h] at k2
      clear h
      go_enter Tryz.func25, Tryz.ntmps25
      go_wp2
      go_ret
      exact ⟨rfl, rfl⟩
    · rw [if_neg (by simp), if_neg (by omega), if_neg (by omega)]
      rw [decide_eq_false (by omega)] at k1 k2
      clear h
      go_enter Tryz.func25, Tryz.ntmps25
      go_wp2
      go_ret
      exact ⟨rfl, rfl⟩
    · rw [if_neg (by simp), if_pos h]
      rw [decide_eq_true h] at k1
      clear h k2
      go_enter Tryz.func25, Tryz.ntmps25
      go_wp2
      go_ret
      exact ⟨rfl, rfl⟩
  · rw [if_pos rfl]
    go_enter Tryz.func25, Tryz.ntmps25
    go_wp2
    go_ret
    exact ⟨rfl, rfl⟩

/-- The float next to x, up or down; a nought's has the step's sign. -/
def stepW (x : Nat) (up : Bool) : Nat := if rg x = 0 then (if up then 1 else 9223372036854775809) else if up = !neg x then x + 1 else x - 1
theorem step_c (x : Nat) (up : Bool) (hx : W64 x) (hn : rg x ≤ 9218868437227405312) (w : World) : Calls Tryz.prog 42 #[.float .f64 x, .bool up] w fun e w' => e = .returned (.float .f64 (stepW x up)) ∧ w = w' := by
  have k1 := eq0 hx
  have k2 := gt0 hx
  have hl := hx.lt
  have hr := rg_eq x
  have hg := neg_eq x
  have hnx : isn x = false := by rw [isn_eq]; simp; omega
  have hp := plc_eq x
  rw [hnx] at k1 k2
  simp only [Bool.not_false, Bool.true_and] at k1 k2
  have K1 := Lib.hid k1
  have K2 := Lib.hid k2
  have HR := Lib.hid hr
  have HG := Lib.hid hg
  have HP := Lib.hid hp
  have HL := Lib.hid hl
  obtain ⟨X, hX⟩ : ∃ X : Int, (x : Int) = X := ⟨_, rfl⟩
  have fb : ∀ w, (callFunc 17 #[.float .f64 x]).run Tryz.prog w = .ok (.value (.int .u64 X)) w := fun w => by rw [← hX]; exact run_f64bits x w
  have HX := Lib.hid hX
  clear k1 k2 hr hg hnx hp hl hX
  go_enter Tryz.func42, Tryz.ntmps42
  go_upto_block 0 with (fail)
  go_cut [5] (fun v5 wx => v5 = .int .u64 (stepW x up : Nat) ∧ w = wx)
  case first =>
    by_cases h0 : rg x = 0
    · have hz : plc x = 0 := plc_zero.2 h0
      have k1 := K1.out
      rw [decide_eq_true hz] at k1
      have st : stepW x up = if up then 1 else 9223372036854775809 := by unfold stepW; rw [if_pos h0]
      have ST := Lib.hid st
      clear h0 hz st
      cases up
      all_goals
        go_wp2
        go_meet
        exact ⟨by rw [ST.out]; rfl, rfl⟩
    · have hz : ¬ plc x = 0 := fun h => h0 (plc_zero.1 h)
      have k1 := K1.out
      rw [decide_eq_false hz] at k1
      have hr := HR.out
      have hl := HL.out
      have h1 : 1 ≤ x := by rcases Nat.eq_zero_or_pos x with h | h; · subst h; exact absurd (by decide) h0
                            · exact h
      have h2 : x < 18446744073709551615 := by omega
      have ws : IntKind.u64.wrap ((x : Int) - 1) = ((x - 1 : Nat) : Int) := by rw [IntKind.wrap_u64]; omega
      have wa : IntKind.u64.wrap ((x : Int) + 1) = ((x + 1 : Nat) : Int) := by rw [IntKind.wrap_u64]; omega
      rw [HX.out] at ws wa
      have h3 : (decide (0 < plc x)) = !neg x := by
        rw [HP.out]; have hz' := mt plc_zero.2 hz; cases neg x <;> simp <;> omega
      have k2 := K2.out
      rw [h3] at k2
      have st : stepW x up = if up = !neg x then x + 1 else x - 1 := by unfold stepW; rw [if_neg h0]
      have ST := Lib.hid st
      clear h0 hz hr hl h1 h2 h3 st
      cases hs : neg x <;> rw [hs] at k2
      all_goals
        have K2 := Lib.hid k2
        have HS := Lib.hid hs
        have WS := Lib.hid ws
        have WA := Lib.hid wa
        clear k2 hs ws wa
        cases up
        all_goals
          go_wp2
          all_goals first | exact absurd (K2.out.symm.trans (by assumption : _ = false)) (by decide) | exact absurd (K2.out.symm.trans (by assumption : _ = true)) (by decide) | exact absurd ((congrArg Bool.not K2.out).symm.trans (by assumption : _ = false)) (by decide) | exact absurd ((congrArg Bool.not K2.out).symm.trans (by assumption : _ = true)) (by decide) | (go_meet; exact ⟨by rw [ST.out, HS.out]; first | (rw [WS.out, if_neg (by decide)]) | (rw [WA.out, if_pos (by decide)]), rfl⟩)
  case rest =>
    obtain ⟨rfl, rfl⟩ := hcut
    go_wp2
    go_ret
    exact ⟨ret_float (Int.toNat_natCast _), rfl⟩

attribute [local go_sem] run_f64bits
/-- The way once nought is told by the sign. -/
def modeW (x : Nat) (m : Int) : Int := if m = 3 then (if neg x then 2 else 1) else m
/-- What is settled of the nearest float and where the exact number lies. -/
def settleW (x : Nat) (off m : Int) : Nat :=
  if rg x = 9218868437227405312 then
    if (neg x = false ∧ modeW x m = 1) ∨ (neg x = true ∧ modeW x m = 2) then wd (neg x) 9218868437227405311 else x
  else if (off < 0 ∧ modeW x m = 1) ∨ (0 < off ∧ modeW x m = 2) then stepW x (decide (0 < off)) else x
theorem settle_c (x : Nat) (off m : Int) (hx : W64 x) (hn : rg x ≤ 9218868437227405312) (w : World) :
    Calls Tryz.prog 24 #[.float .f64 x, .int .i64 off, .int .i8 m] w fun e w' => e = .returned (.float .f64 (settleW x off m)) ∧ w = w' := by
  have sg : ∀ w, Calls Tryz.prog 40 #[.float .f64 x] w fun e w' => e = .returned (.bool (neg x)) ∧ w = w' := fun w => (signbit_c x hx w).mono fun _ _ h => ⟨h.1, h.2.symm⟩
  have ii : ∀ w, Calls Tryz.prog 39 #[.float .f64 x, .int .i64 0] w fun e w' => e = .returned (.bool (infS x 0)) ∧ w = w' := fun w => (isInf_c x 0 hx w).mono fun _ _ h => ⟨h.1, h.2.symm⟩
  have st : ∀ up w, Calls Tryz.prog 42 #[.float .f64 x, .bool up] w fun e w' => e = .returned (.float .f64 (stepW x up)) ∧ w = w' := fun up w => step_c x up hx hn w
  have cs : ∀ w, Calls Tryz.prog 41 #[.float .f64 9218868437227405311, .float .f64 x] w fun e w' => e = .returned (.float .f64 (csgn 9218868437227405311 x)) ∧ w = w' := fun w => (copysign_c _ x (w_const (by decide)) hx w).mono fun _ _ h => ⟨h.1, h.2.symm⟩
  have hI : (infS x 0 = true) ↔ rg x = 9218868437227405312 := by unfold infS; simp
  have hG : rg x = 9218868437227405312 → ((FloatKind.f64.format.order x 0 = some .gt) ↔ neg x = false) := by
    intro h
    have h1 := gt0 hx
    have h2 : isn x = false := by rw [isn_eq]; simp; omega
    rw [h2, plc_eq, h] at h1
    rw [← beq_iff_eq, h1]
    cases neg x <;> simp
  have hL : rg x = 9218868437227405312 → ((FloatKind.f64.format.order x 0 = some .lt) ↔ neg x = true) := by
    intro h
    have h1 := lt0 hx
    have h2 : isn x = false := by rw [isn_eq]; simp; omega
    rw [h2, plc_eq, h] at h1
    rw [← beq_iff_eq, h1]
    cases neg x <;> simp
  have hC : csgn 9218868437227405311 x = wd (neg x) 9218868437227405311 := by unfold csgn; rw [show rg 9218868437227405311 = 9218868437227405311 by decide]
  have HI := Lib.hid hI
  have HG := Lib.hid hG
  have HL := Lib.hid hL
  have HC := Lib.hid hC
  clear hI hG hL hC
  go_enter Tryz.func24, Tryz.ntmps24
  go_wp2_with (first | (go_at_call 40; refine (sg _).mono ?_; rintro e w' ⟨rfl, rfl⟩) | (go_at_call 39; refine (ii _).mono ?_; rintro e w' ⟨rfl, rfl⟩) | (go_at_call 42; refine (st _ _).mono ?_; rintro e w' ⟨rfl, rfl⟩) | (go_at_call 41; refine (cs _).mono ?_; rintro e w' ⟨rfl, rfl⟩))
  all_goals go_ret
  all_goals refine ⟨ret_float ?_, rfl⟩
  all_goals
    have hI := HI.out
    have hG := HG.out
    have hL := HL.out
    have hC := HC.out
    clear HI HG HL HC sg ii st cs
    (try simp only [beq_iff_eq, beq_eq_false_iff_ne] at *)
    unfold settleW modeW
    grind
end Go.Proofs.YtgljhgjjenengaaGreatDoor
