/- What the functions of packages bits and girderref01 answer: sameness, orders, how many between. -/
import Derived.Test.YtddleibffkaenaaDoorB2
namespace Go.Proofs.YtddleibffkaenaaDoor
open Go Go.RowKit GFl
set_option maxRecDepth 100000
attribute [local go_sem] run_f64bits run_f64frombits run_neg_f64

theorem sameF_int {x y : Nat} : ((x : Int) == (y : Int)) = decide (x = y) := by rw [Bool.eq_iff_iff]; simp; omega
theorem sameF_eq {x y : Nat} (h : x = y) : true = sameF x y := by simp [sameF, h]
theorem sameF_ne {x y : Nat} {c : Bool} (h : ¬ x = y) (hc : c = (isn x && isn y)) : c = sameF x y := by simp [sameF, h, hc]
theorem sameFloat_c (x y : Nat) (hx : W64 x) (hy : W64 y) (w : World) : Calls Tryd.prog 16 #[.float .f64 x, .float .f64 y] w fun e w' => e = .returned (.bool (sameF x y)) ∧ w' = w := by
  have k1 := t_ne_self hx
  have k2 := t_ne_self hy
  have k3 := @sameF_int x y
  go_enter Tryd.func16, Tryd.ntmps16
  go_wp2
  all_goals go_ret
  · exact ⟨ret_bool (sameF_eq (by assumption)), rfl⟩
  · exact ⟨ret_bool (sameF_ne (by assumption) (by rw [‹isn x = true›]; rfl)), rfl⟩
  · exact ⟨ret_bool (sameF_ne (by assumption) (by rw [Bool.eq_false_iff.2 ‹¬isn x = true›]; rfl)), rfl⟩
theorem same_c (x y : Nat) (hx : W64 x) (hy : W64 y) (w : World) : Calls Tryd.prog 32 #[.float .f64 x, .float .f64 y] w fun e w' => e = .returned (.bool (sameF x y)) ∧ w' = w := by
  have k1 := t_ne_self hx
  have k2 := t_ne_self hy
  have k3 := @sameF_int x y
  go_enter Tryd.func32, Tryd.ntmps32
  go_wp2
  all_goals go_ret
  · exact ⟨ret_bool (sameF_eq (by assumption)), rfl⟩
  · exact ⟨ret_bool (sameF_ne (by assumption) (by rw [‹isn x = true›]; rfl)), rfl⟩
  · exact ⟨ret_bool (sameF_ne (by assumption) (by rw [Bool.eq_false_iff.2 ‹¬isn x = true›]; rfl)), rfl⟩
theorem sameR_c (x y : Nat) (hx : W64 x) (hy : W64 y) (w : World) : Calls Tryd.prog 33 #[.float .f64 x, .float .f64 y] w fun e w' => e = .returned (.bool (sameF x y)) ∧ w' = w := by
  have k3 := @sameF_int x y
  by_cases h : x = y
  · have H := Lib.hid (sameF_eq h)
    have k : decide (x = y) = true := by simp [h]
    rw [k] at k3
    clear h k
    go_enter Tryd.func33, Tryd.ntmps33
    go_wp2
    go_ret
    exact ⟨ret_bool H.out, rfl⟩
  · have H := Lib.hid h
    have k : decide (x = y) = false := by simp [h]
    rw [k] at k3
    clear h k
    cases hn : isn x
    · have HN := Lib.hid hn
      clear hn
      go_enter Tryd.func33, Tryd.ntmps33
      go_wp2_with (go_at_call 45; refine (nanR_c _ hx _).mono ?_; rw [HN.out]; rintro e w' ⟨rfl, rfl⟩)
      go_ret
      exact ⟨ret_bool (sameF_ne H.out (by rw [HN.out]; rfl)), rfl⟩
    · have HN := Lib.hid hn
      clear hn
      go_enter Tryd.func33, Tryd.ntmps33
      go_wp2_with fail
      refine (nanR_c _ hx _).mono ?_
      rw [HN.out]
      rintro e w' ⟨rfl, rfl⟩
      go_wp2_with fail
      refine (nanR_c _ hy _).mono ?_
      rintro e w' ⟨rfl, rfl⟩
      go_wp2
      go_ret
      exact ⟨ret_bool (sameF_ne H.out (by rw [HN.out]; rfl)), rfl⟩
/-- -1, 0 or 1. -/
def cmpI (x y : Int) : Int := if x < y then -1 else if y < x then 1 else 0
theorem nan_i64 (x : Int) (w : World) : Calls Tryd.prog 56 #[.int .i64 x] w fun e w' => e = .returned (.bool false) ∧ w' = w := by
  have k : (x != x) = false := by simp
  go_enter Tryd.func56, Tryd.ntmps56
  go_wp2
  go_ret
  exact ⟨ret_bool (by simp), rfl⟩
theorem cmp_i64 (x y : Int) (w : World) : Calls Tryd.prog 50 #[.int .i64 x, .int .i64 y] w fun e w' => e = .returned (.int .i64 (cmpI x y)) ∧ w' = w := by
  go_enter Tryd.func50, Tryd.ntmps50
  go_wp2_with (go_at_call 56; refine (nan_i64 _ _).mono ?_; rintro e w' ⟨rfl, rfl⟩)
  all_goals go_ret
  all_goals exact ⟨ret_int (by unfold cmpI; (repeat' split) <;> omega), rfl⟩
theorem nan_int (x : Int) (w : World) : Calls Tryd.prog 57 #[.int .i64 x] w fun e w' => e = .returned (.bool false) ∧ w' = w := by
  have k : (x != x) = false := by simp
  go_enter Tryd.func57, Tryd.ntmps57
  go_wp2
  go_ret
  exact ⟨ret_bool (by simp), rfl⟩
theorem cmp_int (x y : Int) (w : World) : Calls Tryd.prog 51 #[.int .i64 x, .int .i64 y] w fun e w' => e = .returned (.int .i64 (cmpI x y)) ∧ w' = w := by
  go_enter Tryd.func51, Tryd.ntmps51
  go_wp2_with (go_at_call 57; refine (nan_int _ _).mono ?_; rintro e w' ⟨rfl, rfl⟩)
  all_goals go_ret
  all_goals exact ⟨ret_int (by unfold cmpI; (repeat' split) <;> omega), rfl⟩
theorem or_c (b : Nat) (x y : Int) (w : World) (h0 : w.cell? ⟨b, 0, none⟩ = some (.int .i64 x)) (h1 : w.cell? ⟨b, 1, none⟩ = some (.int .i64 y)) : Calls Tryd.prog 49 #[.slice (some ⟨b, 0, none⟩) 2 2] w fun e w' => e = .returned (.int .i64 (if x = 0 then y else x)) ∧ w' = w := by
  by_cases hx : x = 0
  · have k : (x != 0) = false := by simp [hx]
    have HX := Lib.hid hx
    clear hx
    by_cases hy : y = 0
    · have k2 : (y != 0) = false := by simp [hy]
      have HY := Lib.hid hy
      clear hy
      go_enter Tryd.func49, Tryd.ntmps49
      go_wp2
      refine wp_loop_rounds 3 ?_
      rw [rounds_succ]
      go_wp2
      rw [rounds_succ]
      go_wp2
      rw [rounds_succ]
      go_wp2
      go_ret
      exact ⟨ret_int (by have h1 := HX.out; have h2 := HY.out; first | omega | simp [h1, h2]), rfl⟩
    · have k2 : (y != 0) = true := by simp [hy]
      have HY := Lib.hid hy
      clear hy
      go_enter Tryd.func49, Tryd.ntmps49
      go_wp2
      refine wp_loop_rounds 3 ?_
      rw [rounds_succ]
      go_wp2
      rw [rounds_succ]
      go_wp2
      go_ret
      exact ⟨ret_int (by have h1 := HX.out; first | omega | simp [h1]), rfl⟩
  · have k : (x != 0) = true := by simp [hx]
    have HX := Lib.hid hx
    clear hx
    go_enter Tryd.func49, Tryd.ntmps49
    go_wp2
    refine wp_loop_rounds 3 ?_
    rw [rounds_succ]
    go_wp2
    go_ret
    exact ⟨ret_int (by have h1 := HX.out; first | omega | simp [h1]), rfl⟩
def rankF (x : Nat) : Int := if isn x then 9223372036854775807 else plc x
def rankZ (x : Nat) : Int := if isn x then 0 else if plc x = 0 ∧ neg x = false then 1 else 0
theorem rank_c (x : Nat) (hx : W64 x) (w : World) : Calls Tryd.prog 48 #[.float .f64 x] w fun e w' => e = .returned (.tuple #[.int .i64 (rankF x), .int .i64 (rankZ x)]) ∧ w' = w := by
  cases hn : isn x
  · have hp : placeF x = plc x := by unfold placeF; rw [hn]; rfl
    have HP := Lib.hid hp
    have HN := Lib.hid hn
    clear hp hn
    by_cases hz : plc x = 0
    · have k : (plc x == 0) = true := by simp [hz]
      have HZ := Lib.hid hz
      clear hz
      cases hg : neg x
      all_goals
        have HG := Lib.hid hg
        clear hg
        go_enter Tryd.func48, Tryd.ntmps48
        go_wp2_with (first | (go_at_call 12; refine (place_c _ hx _).mono ?_; rw [HN.out, HP.out]; rintro e w' ⟨rfl, rfl⟩) | (go_at_call 29; refine (signbit_c _ hx _).mono ?_; rw [HG.out]; rintro e w' ⟨rfl, rfl⟩))
        go_ret2
        exact ⟨ret_int_int (by unfold rankF; rw [HN.out, HZ.out]; rfl) (by unfold rankZ; rw [HN.out, HZ.out, HG.out]; rfl), rfl⟩
    · have k : (plc x == 0) = false := by simp [hz]
      have HZ := Lib.hid hz
      clear hz
      go_enter Tryd.func48, Tryd.ntmps48
      go_wp2_with (first | (go_at_call 12; refine (place_c _ hx _).mono ?_; rw [HN.out, HP.out]; rintro e w' ⟨rfl, rfl⟩))
      go_ret2
      exact ⟨ret_int_int (by unfold rankF; rw [HN.out]; rfl) (by unfold rankZ; rw [HN.out]; simp [HZ.out]), rfl⟩
  · have HN := Lib.hid hn
    clear hn
    go_enter Tryd.func48, Tryd.ntmps48
    go_wp2_with (first | (go_at_call 12; refine (place_c _ hx _).mono ?_; rw [HN.out]; rintro e w' ⟨rfl, rfl⟩))
    go_ret2
    exact ⟨ret_int_int (by unfold rankF; rw [HN.out]; rfl) (by unfold rankZ; rw [HN.out]; rfl), rfl⟩
def orderF (x y : Nat) : Int := if cmpI (rankF x) (rankF y) = 0 then cmpI (rankZ x) (rankZ y) else cmpI (rankF x) (rankF y)
theorem order_c (x y : Nat) (hx : W64 x) (hy : W64 y) (w : World) : Calls Tryd.prog 34 #[.float .f64 x, .float .f64 y] w fun e w' => e = .returned (.int .i64 (orderF x y)) ∧ Below w.heap.size w w' := by
  go_enter Tryd.func34, Tryd.ntmps34
  go_wp2_with fail
  refine (rank_c _ hx _).mono ?_
  rintro e w' ⟨rfl, rfl⟩
  go_wp2_with fail
  refine (rank_c _ hy _).mono ?_
  rintro e w' ⟨rfl, rfl⟩
  go_wp2_with (first | (go_at_call 50; refine (cmp_i64 _ _ _).mono ?_; rintro e w' ⟨rfl, rfl⟩) | (go_at_call 51; refine (cmp_int _ _ _).mono ?_; rintro e w' ⟨rfl, rfl⟩))
  refine (or_c _ (cmpI (rankF x) (rankF y)) (cmpI (rankZ x) (rankZ y)) _ ?_ ?_).mono ?_
  · go_simp
  · go_simp
  rintro e w' ⟨rfl, rfl⟩
  go_wp2
  all_goals go_ret
  all_goals refine ⟨ret_int ?_, (Below.refl _ _).alloc (Nat.le_refl _) _⟩
  all_goals unfold orderF
  all_goals first | (rw [if_pos (by assumption)]; done) | (rw [if_neg (by assumption)]; done)
/-- How many places lie between. -/
def betwOk (x y : Nat) : Bool := !isn x && !isn y && decide (plc x ≤ plc y)
def betwF (x y : Nat) : Int := if betwOk x y then plc y - plc x else 0
theorem plc_bd' (x : Nat) : isn x = false → -9218868437227405312 ≤ plc x ∧ plc x ≤ 9218868437227405312 := plc_bd
theorem placeF_f {x : Nat} (h : isn x = false) : placeF x = plc x := by unfold placeF; rw [h]; rfl
theorem betw_no1 {x y : Nat} (h : isn x = true) : Ending.returned (.tuple #[.int .u64 0, .bool false]) = .returned (.tuple #[.int .u64 (betwF x y), .bool (betwOk x y)]) := by simp [betwF, betwOk, h]
theorem betw_no2 {x y : Nat} (h : isn y = true) : Ending.returned (.tuple #[.int .u64 0, .bool false]) = .returned (.tuple #[.int .u64 (betwF x y), .bool (betwOk x y)]) := by simp [betwF, betwOk, h]
theorem betw_no3 {x y : Nat} (h : plc y < plc x) : Ending.returned (.tuple #[.int .u64 0, .bool false]) = .returned (.tuple #[.int .u64 (betwF x y), .bool (betwOk x y)]) := by
  have : ¬ plc x ≤ plc y := by omega
  simp [betwF, betwOk, this]
theorem betw_yes {x y : Nat} {d : Int} (h : isn x = false) (h' : isn y = false) (h2 : plc x ≤ plc y) (hd : d = plc y - plc x) : Ending.returned (.tuple #[.int .u64 d, .bool true]) = .returned (.tuple #[.int .u64 (betwF x y), .bool (betwOk x y)]) := by
  simp [betwF, betwOk, h, h', h2, hd]
theorem between_c (x y : Nat) (hx : W64 x) (hy : W64 y) (w : World) : Calls Tryd.prog 30 #[.float .f64 x, .float .f64 y] w fun e w' => e = .returned (.tuple #[.int .u64 (betwF x y), .bool (betwOk x y)]) ∧ w' = w := by
  cases hn : isn x
  · have hb := plc_bd hn
    have HP := Lib.hid (placeF_f hn)
    have HN := Lib.hid hn
    clear hn
    cases hm : isn y
    · have hc := plc_bd hm
      have HQ := Lib.hid (placeF_f hm)
      have HM := Lib.hid hm
      clear hm
      go_enter Tryd.func30, Tryd.ntmps30
      go_wp2_with fail
      refine (place_c _ hx _).mono ?_
      rw [HN.out, HP.out]
      rintro e w' ⟨rfl, rfl⟩
      go_wp2_with fail
      refine (place_c _ hy _).mono ?_
      rw [HM.out, HQ.out]
      rintro e w' ⟨rfl, rfl⟩
      go_wp2
      all_goals go_ret2
      · exact ⟨betw_no3 (by assumption), rfl⟩
      · exact ⟨betw_yes HN.out HM.out (by assumption) (by simp only [IntKind.wrap_u64]; omega), rfl⟩
    · have HM := Lib.hid hm
      clear hm
      go_enter Tryd.func30, Tryd.ntmps30
      go_wp2_with fail
      refine (place_c _ hx _).mono ?_
      rw [HN.out, HP.out]
      rintro e w' ⟨rfl, rfl⟩
      go_wp2_with fail
      refine (place_c _ hy _).mono ?_
      rw [HM.out]
      rintro e w' ⟨rfl, rfl⟩
      go_wp2
      go_ret2
      exact ⟨betw_no2 HM.out, rfl⟩
  · have HN := Lib.hid hn
    clear hn
    go_enter Tryd.func30, Tryd.ntmps30
    go_wp2_with fail
    refine (place_c _ hx _).mono ?_
    rw [HN.out]
    rintro e w' ⟨rfl, rfl⟩
    go_wp2_with fail
    refine (place_c _ hy _).mono ?_
    rintro e w' ⟨rfl, rfl⟩
    go_wp2
    go_ret2
    exact ⟨betw_no1 HN.out, rfl⟩
theorem betweenR_c (x y : Nat) (hx : W64 x) (hy : W64 y) (w : World) : Calls Tryd.prog 31 #[.float .f64 x, .float .f64 y] w fun e w' => e = .returned (.tuple #[.int .u64 (betwF x y), .bool (betwOk x y)]) ∧ w' = w := by
  cases hn : isn x
  · have hb := plc_bd hn
    have HP := Lib.hid (placeF_f hn)
    have HN := Lib.hid hn
    clear hn
    cases hm : isn y
    · have hc := plc_bd hm
      have HQ := Lib.hid (placeF_f hm)
      have HM := Lib.hid hm
      clear hm
      go_enter Tryd.func31, Tryd.ntmps31
      go_wp2_with fail
      refine (placeR_c _ hx _).mono ?_
      rw [HN.out, HP.out]
      rintro e w' ⟨rfl, rfl⟩
      go_wp2_with fail
      refine (placeR_c _ hy _).mono ?_
      rw [HM.out, HQ.out]
      rintro e w' ⟨rfl, rfl⟩
      go_wp2
      all_goals go_ret2
      all_goals first | exact ⟨betw_no3 (by omega), rfl⟩ | (refine ⟨betw_yes HN.out HM.out (by omega) ?_, rfl⟩; first | omega | (simp only [IntKind.wrap_u64]; omega) | (simp only [IntKind.wrap_u64]; done) | rfl)
    · have HM := Lib.hid hm
      clear hm
      go_enter Tryd.func31, Tryd.ntmps31
      go_wp2_with fail
      refine (placeR_c _ hx _).mono ?_
      rw [HN.out, HP.out]
      rintro e w' ⟨rfl, rfl⟩
      go_wp2_with fail
      refine (placeR_c _ hy _).mono ?_
      rw [HM.out]
      rintro e w' ⟨rfl, rfl⟩
      go_wp2
      go_ret2
      exact ⟨betw_no2 HM.out, rfl⟩
  · have HN := Lib.hid hn
    clear hn
    go_enter Tryd.func31, Tryd.ntmps31
    go_wp2_with fail
    refine (placeR_c _ hx _).mono ?_
    rw [HN.out]
    rintro e w' ⟨rfl, rfl⟩
    go_wp2_with fail
    refine (placeR_c _ hy _).mono ?_
    rintro e w' ⟨rfl, rfl⟩
    go_wp2
    go_ret2
    exact ⟨betw_no1 HN.out, rfl⟩
theorem rankF_f {x : Nat} (h : isn x = false) : rankF x = plc x := by unfold rankF; rw [h]; rfl
theorem ord_lt {x y : Nat} (h : isn x = false) (h' : isn y = false) (hl : plc x < plc y) : -1 = orderF x y := by
  unfold orderF; rw [rankF_f h, rankF_f h']; simp [cmpI, hl]
theorem ord_gt {x y : Nat} (h : isn x = false) (h' : isn y = false) (hl : plc y < plc x) : 1 = orderF x y := by
  have : ¬ plc x < plc y := by omega
  unfold orderF; rw [rankF_f h, rankF_f h']; simp [cmpI, hl, this]
theorem ord_eq {x y : Nat} (h : isn x = false) (h' : isn y = false) (hl : plc x = plc y) : orderF x y = cmpI (rankZ x) (rankZ y) := by
  unfold orderF; rw [rankF_f h, rankF_f h', hl]; simp [cmpI]
theorem ord_same {x y : Nat} (h : isn x = false) (h' : isn y = false) (hl : plc x = plc y) (hs : neg x = neg y) : 0 = orderF x y := by
  rw [ord_eq h h' hl]; unfold rankZ; rw [h, h', hl, hs]; simp [cmpI]
theorem ord_zero {x y : Nat} (hl : plc x = plc y) (hs : neg x ≠ neg y) : plc x = 0 := by
  rw [plc_eq, plc_eq] at hl
  rw [plc_eq]
  cases h1 : neg x <;> cases h2 : neg y <;> simp [h1, h2] at * <;> omega
theorem ord_nz {x y : Nat} (h : isn x = false) (h' : isn y = false) (hl : plc x = plc y) (hs : neg x = true) (ht : neg y = false) : -1 = orderF x y := by
  have h0 := ord_zero hl (by rw [hs, ht]; decide)
  rw [ord_eq h h' hl]; unfold rankZ; rw [h, h', ← hl, hs, ht, h0]; simp [cmpI]
theorem ord_pz {x y : Nat} (h : isn x = false) (h' : isn y = false) (hl : plc x = plc y) (hs : neg x = false) (ht : neg y = true) : 1 = orderF x y := by
  have h0 := ord_zero hl (by rw [hs, ht]; decide)
  rw [ord_eq h h' hl]; unfold rankZ; rw [h, h', ← hl, hs, ht, h0]; simp [cmpI]
theorem ord_n1 {x y : Nat} (h : isn x = true) (h' : isn y = false) : 1 = orderF x y := by
  have hb := plc_bd h'
  have h1 : ¬ (9223372036854775807 : Int) < plc y := by omega
  have h2 : plc y < (9223372036854775807 : Int) := by omega
  unfold orderF rankF; rw [h, h']; simp [cmpI, h1, h2]
theorem ord_n2 {x y : Nat} (h : isn x = false) (h' : isn y = true) : -1 = orderF x y := by
  have hb := plc_bd h
  have h2 : plc x < (9223372036854775807 : Int) := by omega
  unfold orderF rankF; rw [h, h']; simp [cmpI, h2]
theorem ord_nn {x y : Nat} (h : isn x = true) (h' : isn y = true) : 0 = orderF x y := by
  unfold orderF rankF rankZ; rw [h, h']; simp [cmpI]
theorem orderR_c (x y : Nat) (hx : W64 x) (hy : W64 y) (w : World) : Calls Tryd.prog 35 #[.float .f64 x, .float .f64 y] w fun e w' => e = .returned (.int .i64 (orderF x y)) ∧ w' = w := by
  cases hn : isn x <;> cases hm : isn y
  · have hb := plc_bd hn
    have hc := plc_bd hm
    have HP := Lib.hid (placeF_f hn)
    have HQ := Lib.hid (placeF_f hm)
    have HN := Lib.hid hn
    have HM := Lib.hid hm
    clear hn hm
    cases hg : neg x <;> cases hh : neg y
    all_goals
      have HG := Lib.hid hg
      have HH := Lib.hid hh
      clear hg hh
      go_enter Tryd.func35, Tryd.ntmps35
      go_wp2_with fail
      refine (nanR_c _ hx _).mono ?_
      rw [HN.out]
      rintro e w' ⟨rfl, rfl⟩
      go_wp2_with fail
      refine (nanR_c _ hy _).mono ?_
      rw [HM.out]
      rintro e w' ⟨rfl, rfl⟩
      go_wp2_with fail
      refine (placeR_c _ hx _).mono ?_
      rw [HN.out, HP.out]
      rintro e w' ⟨rfl, rfl⟩
      go_wp2_with fail
      refine (placeR_c _ hy _).mono ?_
      rw [HM.out, HQ.out]
      rintro e w' ⟨rfl, rfl⟩
      go_wp2_with fail
      · go_ret
        exact ⟨ret_int (ord_lt HN.out HM.out (by assumption)), rfl⟩
      · go_ret
        have hne : plc x ≠ plc y := bne_iff_ne.1 (by assumption)
        exact ⟨ret_int (ord_gt HN.out HM.out (by omega)), rfl⟩
      · have he : plc x = plc y := bne_eq_false_iff_eq.1 (by assumption)
        have HE := Lib.hid he
        clear he
        refine (fields_c _ hx _).mono ?_
        rw [HG.out]
        rintro e w' ⟨rfl, rfl⟩
        go_wp2_with fail
        refine (fields_c _ hy _).mono ?_
        rw [HH.out]
        rintro e w' ⟨rfl, rfl⟩
        go_wp2_with fail
        go_ret
        first
          | exact ⟨ret_int (ord_same HN.out HM.out HE.out (HG.out.trans HH.out.symm)), rfl⟩
          | exact ⟨ret_int (ord_nz HN.out HM.out HE.out HG.out HH.out), rfl⟩
          | exact ⟨ret_int (ord_pz HN.out HM.out HE.out HG.out HH.out), rfl⟩
  all_goals
    have HN := Lib.hid hn
    have HM := Lib.hid hm
    clear hn hm
    go_enter Tryd.func35, Tryd.ntmps35
    go_wp2_with ((with_reducible refine (nanR_c _ hx _).mono ?_); rw [HN.out]; rintro e w' ⟨rfl, rfl⟩)
    try ((with_reducible refine (nanR_c _ hy _).mono ?_); rw [HM.out]; rintro e w' ⟨rfl, rfl⟩)
    go_wp2_with ((with_reducible refine (nanR_c _ hx _).mono ?_); rw [HN.out]; rintro e w' ⟨rfl, rfl⟩)
    try ((with_reducible refine (nanR_c _ hy _).mono ?_); rw [HM.out]; rintro e w' ⟨rfl, rfl⟩)
    go_wp2
    go_ret
    first
      | exact ⟨ret_int (ord_n1 HN.out HM.out), rfl⟩
      | exact ⟨ret_int (ord_n2 HN.out HM.out), rfl⟩
      | exact ⟨ret_int (ord_nn HN.out HM.out), rfl⟩
end Go.Proofs.YtddleibffkaenaaDoor
