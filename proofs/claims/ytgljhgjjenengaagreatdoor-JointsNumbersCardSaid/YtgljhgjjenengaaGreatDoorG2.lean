/- What girderref03's Sqrt answers of a whole number as a float: the same as round's. -/
import Derived.Test.YtgljhgjjenengaaGreatDoorG1
import Derived.Test.YtgljhgjjenengaaGreatDoorR3
import Derived.Test.YtgljhgjjenengaaGreatDoorB1
namespace Go.Proofs.YtgljhgjjenengaaGreatDoor
open Go Go.RowKit GFl Ieee
set_option maxRecDepth 100000
attribute [local go_sem] run_f64bits run_f64frombits run_neg_f64

theorem g_sign_c (x : Nat) (hx : W64 x) (w : World) : Calls Tryz.prog 33 #[.float .f64 x] w fun e w' => e = .returned (.int .i64 (sgI x)) ∧ w = w' := by
  have k1 := gt0 hx
  have k2 := lt0 hx
  have hs : sgI x = if isn x = true then 0 else if 0 < plc x then 1 else if plc x < 0 then -1 else 0 := rfl
  go_enter Tryz.func33, Tryz.ntmps33
  go_wp2
  all_goals go_ret
  all_goals refine ⟨ret_int ?_, rfl⟩
  all_goals grind
theorem g_finite_c (x : Nat) (hx : W64 x) (hf : rg x < 9218868437227405312) (w : World) : Calls Tryz.prog 30 #[.float .f64 x] w fun e w' => e = .returned (.bool true) ∧ w = w' := by
  have h := sub_self64 hx hf
  have k : ∀ (t : TypeId) (w : World), (binOp .sub t (.float .f64 x) (.float .f64 x)).run Tryz.prog w = .ok (.float .f64 0) w := fun t w => run_float_arith w .sub t .f64 x x 0 h
  have k0 : (FloatKind.f64.format.order 0 0 == some .eq) = true := by decide +kernel
  clear h
  go_enter Tryz.func30, Tryz.ntmps30
  go_wp2
  go_ret
  exact ⟨rfl, rfl⟩
theorem g_middle_c (x : Nat) (hx : W64 x) (h1 : 4607182418800017408 ≤ rg x) (h2 : rg x < 4845873199050653696) (w : World) : Calls Tryz.prog 31 #[.float .f64 x] w fun e w' => e = .returned (.bool true) ∧ w = w' := by
  have ab := fun w => abs_c x hx w
  have k1 : (FloatKind.f64.format.order (fabs x) 553942754166571008 == some .gt || FloatKind.f64.format.order (fabs x) 553942754166571008 == some .eq) = true := by
    rw [t_ge (fabs_w x) (w_const (by decide)), fabs_isn, fabs_plc, isn_eq]
    have e1 : isn 553942754166571008 = false := by decide
    have e2 : plc 553942754166571008 = 553942754166571008 := by decide
    rw [e1, e2]; simp; omega
  have k2 : (FloatKind.f64.format.order (fabs x) 8660422083433463808 == some .lt || FloatKind.f64.format.order (fabs x) 8660422083433463808 == some .eq) = true := by
    rw [t_le (fabs_w x) (w_const (by decide)), fabs_isn, fabs_plc, isn_eq]
    have e1 : isn 8660422083433463808 = false := by decide
    have e2 : plc 8660422083433463808 = 8660422083433463808 := by decide
    rw [e1, e2]; simp; omega
  clear h1 h2
  go_enter Tryz.func31, Tryz.ntmps31
  go_wp2_with (first | (go_at_call 46; refine (ab _).mono ?_; rintro e w' ⟨rfl, rfl⟩))
  go_ret
  exact ⟨rfl, rfl⟩
theorem g_further_c (x : Nat) (h : x + 1 < 18446744073709551616) (w : World) : Calls Tryz.prog 64 #[.float .f64 x] w fun e w' => e = .returned (.float .f64 (x + 1)) ∧ w = w' := by
  have wa : IntKind.u64.wrap ((x : Int) + 1) = ((x + 1 : Nat) : Int) := by rw [IntKind.wrap_u64]; omega
  go_enter Tryz.func64, Tryz.ntmps64
  go_wp2
  go_ret
  exact ⟨ret_float (by first | rfl | omega | (rw [wa]; rfl)), rfl⟩
theorem g_nearer_c (x : Nat) (h : x < 18446744073709551616) (h1 : 1 ≤ x) (w : World) : Calls Tryz.prog 65 #[.float .f64 x] w fun e w' => e = .returned (.float .f64 (x - 1)) ∧ w = w' := by
  have wa : IntKind.u64.wrap ((x : Int) - 1) = ((x - 1 : Nat) : Int) := by rw [IntKind.wrap_u64]; omega
  go_enter Tryz.func65, Tryz.ntmps65
  go_wp2
  go_ret
  exact ⟨ret_float (by first | rfl | omega | (rw [wa]; rfl)), rfl⟩
theorem g_up_c (x : Nat) (hx : W64 x) (hn : rg x ≤ 9218868437227405312) (w : World) : Calls Tryz.prog 48 #[.float .f64 x] w fun e w' => e = .returned (.float .f64 (stepW x true)) ∧ w = w' := by
  have k1 := eq0 hx
  have k2 := gt0 hx
  have hl := hx.lt
  have hr := rg_eq x
  have hg := neg_eq x
  have hp := plc_eq x
  have hnx : isn x = false := by rw [isn_eq]; simp; omega
  rw [hnx] at k1 k2
  simp only [Bool.not_false, Bool.true_and] at k1 k2
  by_cases h0 : rg x = 0
  · have st : stepW x true = 1 := by unfold stepW; rw [if_pos h0]; rfl
    have hz : plc x = 0 := plc_zero.2 h0
    rw [decide_eq_true hz] at k1
    rw [st]
    clear k2 hl hr hg hp hnx h0 st hz
    go_enter Tryz.func48, Tryz.ntmps48
    go_wp2
    go_ret
    exact ⟨rfl, rfl⟩
  · have hz : ¬ plc x = 0 := fun h => h0 (plc_zero.1 h)
    rw [decide_eq_false hz] at k1
    have st : stepW x true = if true = !neg x then x + 1 else x - 1 := by unfold stepW; rw [if_neg h0]
    cases hs : neg x
    · rw [hs] at st hp
      have hpos : 0 < plc x := by rw [hp, if_neg (by simp)]; omega
      rw [decide_eq_true hpos] at k2
      have fu := fun w => g_further_c x (by rw [hs] at hg; simp at hg; omega) w
      have st' : stepW x true = x + 1 := st
      rw [st']
      clear hl hr hg hp hnx h0 st hz hpos st'
      go_enter Tryz.func48, Tryz.ntmps48
      go_wp2_with (first | (go_at_call 64; refine (fu _).mono ?_; rintro e w' ⟨rfl, rfl⟩))
      go_ret
      exact ⟨rfl, rfl⟩
    · rw [hs] at st hp
      have hpos : ¬ 0 < plc x := by rw [hp, if_pos rfl]; omega
      rw [decide_eq_false hpos] at k2
      have ne := fun w => g_nearer_c x hl (by rw [hs] at hg; simp at hg; omega) w
      have st' : stepW x true = x - 1 := st
      rw [st']
      clear hl hr hg hp hnx h0 st hz hpos st'
      go_enter Tryz.func48, Tryz.ntmps48
      go_wp2_with (first | (go_at_call 65; refine (ne _).mono ?_; rintro e w' ⟨rfl, rfl⟩))
      go_ret
      exact ⟨rfl, rfl⟩
theorem step_down {x : Nat} (hx : W64 x) (hn : rg x ≤ 9218868437227405312) : fneg (stepW (fneg x) true) = stepW x false := by
  have h1 := fneg_w hx
  have h2 := fneg_rg hx
  have h3 := fneg_neg hx
  have h4 := fneg_eq hx
  have hl := hx.lt
  have hr := rg_eq x
  have hg := neg_eq x
  unfold stepW
  rw [h2, h3]
  by_cases h0 : rg x = 0
  · rw [if_pos h0, if_pos h0]; decide
  · rw [if_neg h0, if_neg h0]
    cases hs : neg x
    · rw [hs] at h4 hg
      simp only [Bool.not_false, Bool.not_true, if_neg (Bool.false_ne_true)] at h4 ⊢
      have hw : W64 (fneg x - 1) := W64.mk (by rw [h4]; simp at hg; omega)
      rw [if_neg (by decide), fneg_eq hw, neg_eq, h4]
      simp at hg
      rw [decide_eq_true (by omega), if_pos rfl]; omega
    · rw [hs] at h4 hg
      simp only [Bool.not_true, Bool.not_false, if_true] at h4 ⊢
      simp at hg
      have hf : fneg x = x - 9223372036854775808 := h4
      have hw : W64 (fneg x + 1) := W64.mk (by rw [hf]; omega)
      rw [fneg_eq hw, neg_eq, hf, decide_eq_false (by omega), if_neg (by simp)]; omega
theorem g_down_c (x : Nat) (hx : W64 x) (hn : rg x ≤ 9218868437227405312) (w : World) : Calls Tryz.prog 47 #[.float .f64 x] w fun e w' => e = .returned (.float .f64 (stepW x false)) ∧ w = w' := by
  have up := fun w => g_up_c (fneg x) (fneg_w hx) (by rw [fneg_rg hx]; exact hn) w
  rw [← step_down hx hn]
  clear hx hn
  go_enter Tryz.func47, Tryz.ntmps47
  go_wp2_with (first | (go_at_call 48; refine (up _).mono ?_; rintro e w' ⟨rfl, rfl⟩))
  go_ret
  exact ⟨rfl, rfl⟩
/-- What girderref03's side settles, of the three ways that are asked for. -/
def sideW (x : Nat) (off m : Int) : Nat := if (off < 0 ∧ m = 1) ∨ (0 < off ∧ m = 2) then stepW x (decide (0 < off)) else x
theorem g_side_c (x : Nat) (off m : Int) (hx : W64 x) (hn : rg x ≤ 9218868437227405312) (hm : m = 0 ∨ m = 1 ∨ m = 2) (w : World) :
    Calls Tryz.prog 32 #[.float .f64 x, .int .i64 off, .int .i8 m] w fun e w' => e = .returned (.float .f64 (sideW x off m)) ∧ w = w' := by
  have sg : ∀ w, Calls Tryz.prog 40 #[.float .f64 x] w fun e w' => e = .returned (.bool (neg x)) ∧ w = w' := fun w => (signbit_c x hx w).mono fun _ _ h => ⟨h.1, h.2.symm⟩
  have up := fun w => g_up_c x hx hn w
  have dn := fun w => g_down_c x hx hn w
  unfold sideW
  clear hx hn
  rcases hm with rfl | rfl | rfl
  all_goals rcases Int.lt_trichotomy off 0 with h | h | h
  all_goals
    first | rw [if_pos (by omega)] | rw [if_neg (by omega)]
    (try rw [decide_eq_true h])
    (try rw [decide_eq_false (by omega)])
    go_enter Tryz.func32, Tryz.ntmps32
    go_wp2_with (first | (go_at_call 40; refine (sg _).mono ?_; rintro e w' ⟨rfl, rfl⟩) | (go_at_call 48; refine (up _).mono ?_; rintro e w' ⟨rfl, rfl⟩) | (go_at_call 47; refine (dn _).mono ?_; rintro e w' ⟨rfl, rfl⟩))
    go_ret
    exact ⟨rfl, rfl⟩
theorem side_settle {r t : Nat} (m : Int) (hn : neg r = false) (hi : rg r = 9218868437227405312 → t = wd true 9218868437227405312) (hr : W64 r) (hm : m = 0 ∨ m = 1 ∨ m = 2) : sideW r (sgI t) m = settleW r (sgI t) (wayI m) := by
  have hw : wayI m = m := by unfold wayI; rcases hm with rfl | rfl | rfl <;> rfl
  rw [hw]
  have h3 : ¬ m = 3 := by omega
  unfold sideW settleW modeW
  rw [if_neg h3]
  by_cases h : rg r = 9218868437227405312
  · have e : r = wd false 9218868437227405312 := by rw [← h, ← hn]; exact w64_wd hr
    rw [if_pos h, hi h, hn]
    have hs : sgI (wd true 9218868437227405312) = -1 := by decide
    rw [hs, e]
    rcases hm with rfl | rfl | rfl <;> decide
  · rw [if_neg h]
theorem g_sqrt_c {x r t : Nat} (m : Int) (hx : W64 x) (hnx : neg x = false) (h1 : 4607182418800017408 ≤ rg x) (h2 : rg x < 4845873199050653696) (hs : double.sqrt x = some r) (hr : W64 r) (hnr : neg r = false) (hrn : rg r ≤ 9218868437227405312) (ht : double.fma (fneg r) r x = some t) (hw : W64 t) (hi : rg r = 9218868437227405312 → t = wd true 9218868437227405312) (hm : m = 0 ∨ m = 1 ∨ m = 2) (w : World) :
    Calls Tryz.prog 16 #[.float .f64 x, .int .i8 m] w fun e w' => e = .returned (.float .f64 (settleW r (sgI t) (wayI m))) ∧ w = w' := by
  rw [← side_settle m hnr hi hr hm]
  have k1 : (FloatKind.f64.format.order x 0 == some .lt || FloatKind.f64.format.order x 0 == some .eq) = false := by
    rw [le0 hx, plc_eq, hnx, isn_eq]; simp; omega
  have D := run_fma64 ht
  have fn := fun w => g_finite_c x hx (by omega) w
  have md := fun w => g_middle_c x hx h1 h2 w
  have sd := fun o w => g_side_c r o m hr hrn hm w
  clear hnx h1 h2 hi hm hnr
  go_enter Tryz.func16, Tryz.ntmps16
  go_wp2_with (first | (go_at_call 21; refine (sqrt_c hs _).mono ?_; rintro e w' ⟨rfl, rfl⟩) | (go_at_call 30; refine (fn _).mono ?_; rintro e w' ⟨rfl, rfl⟩) | (go_at_call 31; refine (md _).mono ?_; rintro e w' ⟨rfl, rfl⟩) | (go_at_call 33; refine (g_sign_c t hw _).mono ?_; rintro e w' ⟨rfl, rfl⟩) | (go_at_call 32; refine (sd _ _).mono ?_; rintro e w' ⟨rfl, rfl⟩))
  go_ret
  exact ⟨rfl, rfl⟩
theorem g_sqrt_z (m : Int) (w : World) :
    Calls Tryz.prog 16 #[.float .f64 0, .int .i8 m] w fun e w' => e = .returned (.float .f64 0) ∧ w = w' := by
  have k1 : (FloatKind.f64.format.order 0 0 == some .lt || FloatKind.f64.format.order 0 0 == some .eq) = true := by decide +kernel
  have hs : double.sqrt 0 = some 0 := by decide +kernel
  have fn := fun w => g_finite_c 0 (w_const (by decide)) (by decide) w
  go_enter Tryz.func16, Tryz.ntmps16
  go_wp2_with (first | (go_at_call 21; refine (sqrt_c hs _).mono ?_; rintro e w' ⟨rfl, rfl⟩) | (go_at_call 30; refine (fn _).mono ?_; rintro e w' ⟨rfl, rfl⟩))
  go_ret
  exact ⟨rfl, rfl⟩
/-- The root of a whole number as a float: round's and girderref03's are one, of the three ways asked for. -/
theorem sqrt_both {n : Nat} (h : n < 9007199254740992) : ∃ (x : Nat) (F : Int → Nat), floatOfInt .f64 (n : Int) = x ∧ ∀ m, (m = 0 ∨ m = 1 ∨ m = 2) → ∀ w, Calls Tryz.prog 15 #[.float .f64 x, .int .i8 m] w (fun e w' => e = .returned (.float .f64 (F m)) ∧ Below w.heap.size w w') ∧ Calls Tryz.prog 16 #[.float .f64 x, .int .i8 m] w (fun e w' => e = .returned (.float .f64 (F m)) ∧ w = w') := by
  rcases Nat.eq_zero_or_pos n with rfl | h0
  · exact ⟨0, fun _ => 0, int_float0, fun m _ w => ⟨rsqrt_z m (w_const (by decide)) plc0 (by decide +kernel) w, g_sqrt_z m w⟩⟩
  · obtain ⟨x, ex, hx, hn, h1, h2, _⟩ := int_float h0 h
    have hf : rg x < 9218868437227405312 := by omega
    obtain ⟨r, hs, hr, hnr, hrn⟩ := sqrt_pos hx hn hf
    obtain ⟨t, ht, hw, hi⟩ := fma_left hr hnr hrn hx hf
    refine ⟨x, fun m => settleW r (sgI t) (wayI m), ex, fun m hm w => ⟨rsqrt_c m hx ?_ (fin_t hf) ?_ hs hr hrn ht hw w, g_sqrt_c m hx hn h1 h2 hs hr hnr hrn ht hw hi hm w⟩⟩
    · rw [plc_eq, hn, if_neg (by simp)]; omega
    · unfold plainF; rw [decide_eq_true]; omega
end Go.Proofs.YtgljhgjjenengaaGreatDoor
