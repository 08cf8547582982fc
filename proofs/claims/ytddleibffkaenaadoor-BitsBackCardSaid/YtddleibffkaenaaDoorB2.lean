/- What the functions of packages bits and girderref01 answer: kinds and places. -/
import Derived.Test.YtddleibffkaenaaDoorB1
import Derived.Test.YtddleibffkaenaaDoorS1
namespace Go.Proofs.YtddleibffkaenaaDoor
open Go Go.RowKit GFl
set_option maxRecDepth 100000
attribute [local go_sem] run_f64bits run_f64frombits run_neg_f64

theorem f_neg {x : Nat} (hx : W64 x) : ((x : Int) / 9223372036854775808 == 1) = neg x := by
  have h := hx.lt
  rw [neg_eq, Bool.eq_iff_iff]; simp; omega
theorem f_exp {x : Nat} (hx : W64 x) : wrap64 ((IntKind.u64.wrap ((x : Int) / 4503599627370496)).tmod 2048) = ((rg x / 4503599627370496 : Nat) : Int) := by
  have h := hx.lt
  rw [rg_eq, IntKind.wrap_u64, tmod_of_emod]
  unfold wrap64
  omega
theorem f_frac (x : Nat) : (x : Int) % 4503599627370496 = ((rg x % 4503599627370496 : Nat) : Int) := by
  rw [rg_eq]; omega
theorem ret3_fields {a d : Bool} {b c e f : Int} (h1 : a = d) (h2 : b = e) (h3 : c = f) : Ending.returned (.tuple #[.bool a, .int .i64 b, .int .u64 c]) = .returned (.tuple #[.bool d, .int .i64 e, .int .u64 f]) := by rw [h1, h2, h3]

theorem fields_c (x : Nat) (hx : W64 x) (w : World) : Calls Tryd.prog 43 #[.float .f64 x] w fun e w' => e = .returned (.tuple #[.bool (neg x), .int .i64 (rg x / 4503599627370496 : Nat), .int .u64 (rg x % 4503599627370496 : Nat)]) ∧ w' = w := by
  go_enter Tryd.func43, Tryd.ntmps43
  go_wp2
  go_ret3
  exact ⟨ret3_fields (f_neg hx) (f_exp hx) (f_frac x), rfl⟩
theorem kindR_c (x : Nat) (hx : W64 x) (w : World) : Calls Tryd.prog 18 #[.float .f64 x] w fun e w' => e = .returned (.int .i64 (kindF x)) ∧ w' = w := by
  have hl := rg_lt x
  go_enter Tryd.func18, Tryd.ntmps18
  go_wp2_with (go_at_call 43; refine (fields_c _ hx _).mono ?_; rintro e w' ⟨rfl, rfl⟩)
  all_goals
    go_ret
    refine ⟨ret_int ?_, rfl⟩
    go_light
    (try simp only [bne_iff_ne, ne_eq, bne_eq_false_iff_eq] at *)
    unfold kindF
    (repeat' split) <;> omega
theorem nanR_c (x : Nat) (hx : W64 x) (w : World) : Calls Tryd.prog 45 #[.float .f64 x] w fun e w' => e = .returned (.bool (isn x)) ∧ w' = w := by
  have e : (kindF x == 4) = isn x := by rw [isn_eq, Bool.eq_iff_iff]; unfold kindF; (repeat' split) <;> simp <;> omega
  have E := Lib.hid e
  clear e
  go_enter Tryd.func45, Tryd.ntmps45
  go_wp2_with (go_at_call 18; refine (kindR_c _ hx _).mono ?_; rintro e w' ⟨rfl, rfl⟩)
  go_ret
  exact ⟨ret_bool E.out, rfl⟩
/-- Finite. -/
def finF (x : Nat) : Bool := decide (rg x < 9218868437227405312)
theorem finR_c (x : Nat) (hx : W64 x) (w : World) : Calls Tryd.prog 42 #[.float .f64 x] w fun e w' => e = .returned (.bool (finF x)) ∧ w' = w := by
  have e : decide (kindF x < 3) = finF x := by unfold finF kindF; rw [decide_eq_decide]; (repeat' split) <;> omega
  have E := Lib.hid e
  clear e
  go_enter Tryd.func42, Tryd.ntmps42
  go_wp2_with (go_at_call 18; refine (kindR_c _ hx _).mono ?_; rintro e w' ⟨rfl, rfl⟩)
  go_ret
  exact ⟨ret_bool E.out, rfl⟩
theorem kind_c (x : Nat) (hx : W64 x) (w : World) : Calls Tryd.prog 17 #[.float .f64 x] w fun e w' => e = .returned (.int .i64 (kindF x)) ∧ w' = w := by
  have k1 : (FloatKind.f64.format.order x x != some .eq) = decide (9218868437227405312 < rg x) := by rw [t_ne_self hx, isn_eq]
  have k2 : (FloatKind.f64.format.order (fabs x) 4503599627370496 == some .gt || FloatKind.f64.format.order (fabs x) 4503599627370496 == some .eq) = decide (rg x ≤ 9218868437227405312 ∧ 4503599627370496 ≤ rg x) := by
    rw [t_ge (fabs_w x) (w_const (by decide)), fabs_isn, fabs_plc, isn_eq, isn_eq, plc_eq, neg_eq, rg_eq 4503599627370496, Bool.eq_iff_iff]; simp; omega
  have k3 : (FloatKind.f64.format.order (fabs x) 0 == some .gt) = decide (rg x ≤ 9218868437227405312 ∧ 0 < rg x) := by
    rw [t_gt (fabs_w x) (w_const (by decide)), fabs_isn, fabs_plc, isn_eq, isn0, plc0, Bool.eq_iff_iff]; simp
  have k4 : infS x 0 = decide (rg x = 9218868437227405312) := by simp [infS]
  go_enter Tryd.func17, Tryd.ntmps17
  go_wp2_with (first | (go_at_call 24; refine (abs_c _ hx _).mono ?_; rintro e w' ⟨rfl, rfl⟩) | (go_at_call 22; refine (isInf_c _ _ hx _).mono ?_; rintro e w' ⟨rfl, rfl⟩))
  all_goals go_ret
  all_goals exact ⟨ret_int (by unfold kindF; (repeat' split) <;> omega), rfl⟩

def rint (b : Bool) : Bool := b
theorem place_c (x : Nat) (hx : W64 x) (w : World) : Calls Tryd.prog 12 #[.float .f64 x] w fun e w' => e = .returned (.tuple #[.int .i64 (placeF x), .bool (!isn x)]) ∧ w' = w := by
  have k1 : (FloatKind.f64.format.order x x != some .eq) = isn x := by rw [t_ne_self hx]
  have k3 : isn x = false → (FloatKind.f64.format.order x 0 == some .lt) = decide (plc x < 0) := by
    intro h; rw [t_lt hx (w_const (by decide)), isn0, plc0, h]; simp
  cases hn : isn x
  · have k3 := k3 hn
    have hr : rg x ≤ 9223372036854775807 := by have := rg_lt x; omega
    rw [hn] at k1
    have HN := Lib.hid hn
    clear hn
    have hf : fabs x = rg x := rfl
    go_enter Tryd.func12, Tryd.ntmps12
    go_wp2_with (go_at_call 24; refine (abs_c _ hx _).mono ?_; rintro e w' ⟨rfl, rfl⟩)
    all_goals go_ret2
    all_goals refine ⟨ret_int_bool ?_ ?_, rfl⟩
    all_goals first | (unfold placeF; rw [HN.out]; have := plc_natAbs x; simp; omega) | rfl
  · rw [hn] at k1
    have HN := Lib.hid hn
    clear hn k3
    go_enter Tryd.func12, Tryd.ntmps12
    go_wp2
    go_ret2
    exact ⟨ret_int_bool (by unfold placeF; rw [HN.out]; rfl) rfl, rfl⟩
theorem placeR_c (x : Nat) (hx : W64 x) (w : World) : Calls Tryd.prog 13 #[.float .f64 x] w fun e w' => e = .returned (.tuple #[.int .i64 (placeF x), .bool (!isn x)]) ∧ w' = w := by
  have hl := rg_lt x
  cases hn : isn x
  · have HN := Lib.hid hn
    clear hn
    cases hg : neg x
    all_goals
      have HG := Lib.hid hg
      clear hg
      go_enter Tryd.func13, Tryd.ntmps13
      go_wp2_with (first | (go_at_call 45; refine (nanR_c _ hx _).mono ?_; rw [HN.out]; rintro e w' ⟨rfl, rfl⟩) | (go_at_call 43; refine (fields_c _ hx _).mono ?_; rw [HG.out]; rintro e w' ⟨rfl, rfl⟩))
      go_ret2
      refine ⟨ret_int_bool ?_ rfl, rfl⟩
      unfold placeF
      rw [HN.out, plc_eq, HG.out]
      try unfold wrap64
      simp
      omega
  · have HN := Lib.hid hn
    clear hn
    go_enter Tryd.func13, Tryd.ntmps13
    go_wp2_with (first | (go_at_call 45; refine (nanR_c _ hx _).mono ?_; rw [HN.out]; rintro e w' ⟨rfl, rfl⟩))
    go_ret2
    exact ⟨ret_int_bool (by unfold placeF; rw [HN.out]; rfl) rfl, rfl⟩

theorem fneg_nat {p : Int} (h : p < 0) (h' : -9218868437227405312 ≤ p) : fneg (-p).toNat = atW p := by
  have hw : W64 (-p).toNat := W64.mk (by omega)
  unfold atW
  rw [fneg_eq hw, neg_eq, wd_eq]
  have h2 : ¬ 9223372036854775808 ≤ (-p).toNat := by omega
  simp only [h2, h, decide_true, decide_false, Bool.false_eq_true, if_false, if_true]
  omega
theorem at_pos {p : Int} (h : 0 ≤ p) : p.toNat = atW p := by
  unfold atW
  rw [wd_eq]
  have h2 : ¬ p < 0 := by omega
  simp only [h2, decide_false, Bool.false_eq_true, if_false]
  omega
theorem atOk_eq (p : Int) : atOk p = decide (-9218868437227405312 ≤ p ∧ p ≤ 9218868437227405312) := rfl
theorem at_c (p : Int) (h1 : -9223372036854775808 ≤ p) (h2 : p ≤ 9223372036854775807) (w : World) : Calls Tryd.prog 27 #[.int .i64 p] w fun e w' => e = .returned (.tuple #[.float .f64 (atF p), .bool (atOk p)]) ∧ w' = w := by
  go_enter Tryd.func27, Tryd.ntmps27
  go_wp2
  all_goals go_ret2
  all_goals refine ⟨ret_float_bool ?_ ?_, rfl⟩
  all_goals try unfold atF
  all_goals rw [atOk_eq]
  all_goals first | (symm; rw [if_neg (by simp; omega)]) | (rw [if_pos (by simp; omega)]; first | exact fneg_nat (by omega) (by omega) | exact at_pos (by omega)) | (symm; simp; omega)
theorem atR_c (p : Int) (h1 : -9223372036854775808 ≤ p) (h2 : p ≤ 9223372036854775807) (w : World) : Calls Tryd.prog 28 #[.int .i64 p] w fun e w' => e = .returned (.tuple #[.float .f64 (atF p), .bool (atOk p)]) ∧ w' = w := by
  go_enter Tryd.func28, Tryd.ntmps28
  go_wp2
  all_goals go_ret2
  all_goals refine ⟨ret_float_bool ?_ ?_, rfl⟩
  all_goals try unfold atF
  all_goals rw [atOk_eq]
  all_goals first | (symm; rw [if_neg (by simp; omega)]) | (rw [if_pos (by simp; omega)]; first | exact at_pos (by omega) | (unfold atW; rw [wd_eq, decide_eq_true (by omega), if_pos rfl]; (try rw [IntKind.wrap_u64]); omega)) | (symm; simp; omega)
theorem nextP_bd (p : Int) (up : Bool) (h1 : -9218868437227405312 ≤ p) (h2 : p ≤ 9218868437227405312) : -9218868437227405312 ≤ nextP p up ∧ nextP p up ≤ 9218868437227405312 := by
  unfold nextP PI; cases up <;> simp <;> omega
theorem plc_bd {x : Nat} (h : isn x = false) : -9218868437227405312 ≤ plc x ∧ plc x ≤ 9218868437227405312 := by
  rw [isn_eq] at h
  have h := of_decide_eq_false h
  rw [plc_eq]; cases neg x <;> simp <;> omega
theorem nextF_of {x : Nat} {up : Bool} {p : Int} (h : isn x = false) (hp : p = nextP (plc x) up) : atF p = nextF x up := by
  have hb := plc_bd h
  have hn := nextP_bd (plc x) up hb.1 hb.2
  unfold atF nextF
  rw [h, hp, atOk_eq, if_pos (by simp <;> omega)]
  simp
theorem nextF_same {x : Nat} {up : Bool} (h : isn x = false) (hp : nextP (plc x) up = plc x) (h0 : plc x ≠ 0) (hx : W64 x) : x = nextF x up := by
  unfold nextF
  rw [h, hp]
  simp only [Bool.false_eq_true, if_false]
  unfold atW
  have h1 := plc_natAbs x
  have h2 : decide (plc x < 0) = neg x := by
    rw [Bool.eq_iff_iff, decide_eq_true_eq, plc_lt_zero]
    constructor
    · exact And.left
    · intro h; exact ⟨h, by have := mt plc_zero.2 h0; omega⟩
  rw [h1, h2]
  exact w64_wd hx
theorem nextF_nan {x : Nat} {up : Bool} (h : isn x = true) : nextF x up = x := by unfold nextF; rw [h]; rfl
theorem next_c (x : Nat) (up : Bool) (hx : W64 x) (w : World) : Calls Tryd.prog 19 #[.float .f64 x, .bool up] w fun e w' => e = .returned (.float .f64 (nextF x up)) ∧ w' = w := by
  cases hn : isn x
  · have hb := plc_bd hn
    have hp : placeF x = plc x := by unfold placeF; rw [hn]; rfl
    have HN := Lib.hid hn
    have HP := Lib.hid hp
    clear hn hp
    cases up
    all_goals
      go_enter Tryd.func19, Tryd.ntmps19
      go_wp2_with (first | (go_at_call 12; refine (place_c _ hx _).mono ?_; rw [HN.out, HP.out]; rintro e w' ⟨rfl, rfl⟩) | (go_at_call 27; refine (at_c _ (by omega) (by omega) _).mono ?_; rintro e w' ⟨rfl, rfl⟩))
      all_goals go_ret
      all_goals exact ⟨ret_float (nextF_of HN.out (by unfold nextP PI; simp <;> omega)), rfl⟩
  · have HN := Lib.hid hn
    clear hn
    go_enter Tryd.func19, Tryd.ntmps19
    go_wp2_with (first | (go_at_call 12; refine (place_c _ hx _).mono ?_; rw [HN.out]; rintro e w' ⟨rfl, rfl⟩))
    go_ret
    exact ⟨ret_float (nextF_nan HN.out).symm, rfl⟩
theorem nextR_c (x : Nat) (up : Bool) (hx : W64 x) (w : World) : Calls Tryd.prog 20 #[.float .f64 x, .bool up] w fun e w' => e = .returned (.float .f64 (nextF x up)) ∧ w' = w := by
  cases hn : isn x
  · have hb := plc_bd hn
    have hp : placeF x = plc x := by unfold placeF; rw [hn]; rfl
    have HN := Lib.hid hn
    have HP := Lib.hid hp
    clear hn hp
    cases up
    · by_cases h1 : plc x = -9218868437227405312
      all_goals have H1 := Lib.hid h1
      · have k : (plc x == -9218868437227405312) = true := by simp [h1]
        clear h1
        go_enter Tryd.func20, Tryd.ntmps20
        go_wp2_with (first | (go_at_call 13; refine (placeR_c _ hx _).mono ?_; rw [HN.out, HP.out]; rintro e w' ⟨rfl, rfl⟩) | (go_at_call 28; refine (atR_c _ (by omega) (by omega) _).mono ?_; rintro e w' ⟨rfl, rfl⟩))
        go_ret
        have h1 := H1.out
        exact ⟨ret_float (nextF_same HN.out (by unfold nextP PI; simp <;> omega) (by omega) hx), rfl⟩
      · have k : (plc x == -9218868437227405312) = false := by simp [h1]
        go_enter Tryd.func20, Tryd.ntmps20
        go_wp2_with (first | (go_at_call 13; refine (placeR_c _ hx _).mono ?_; rw [HN.out, HP.out]; rintro e w' ⟨rfl, rfl⟩) | (go_at_call 28; refine (atR_c _ (by omega) (by omega) _).mono ?_; rintro e w' ⟨rfl, rfl⟩))
        go_ret
        exact ⟨ret_float (nextF_of HN.out (by unfold nextP PI; simp <;> omega)), rfl⟩
    · by_cases h1 : plc x = 9218868437227405312
      all_goals have H1 := Lib.hid h1
      · have k : (plc x == 9218868437227405312) = true := by simp [h1]
        clear h1
        go_enter Tryd.func20, Tryd.ntmps20
        go_wp2_with (first | (go_at_call 13; refine (placeR_c _ hx _).mono ?_; rw [HN.out, HP.out]; rintro e w' ⟨rfl, rfl⟩) | (go_at_call 28; refine (atR_c _ (by omega) (by omega) _).mono ?_; rintro e w' ⟨rfl, rfl⟩))
        go_ret
        have h1 := H1.out
        exact ⟨ret_float (nextF_same HN.out (by unfold nextP PI; simp <;> omega) (by omega) hx), rfl⟩
      · have k : (plc x == 9218868437227405312) = false := by simp [h1]
        go_enter Tryd.func20, Tryd.ntmps20
        go_wp2_with (first | (go_at_call 13; refine (placeR_c _ hx _).mono ?_; rw [HN.out, HP.out]; rintro e w' ⟨rfl, rfl⟩) | (go_at_call 28; refine (atR_c _ (by omega) (by omega) _).mono ?_; rintro e w' ⟨rfl, rfl⟩))
        go_ret
        exact ⟨ret_float (nextF_of HN.out (by unfold nextP PI; simp <;> omega)), rfl⟩
  · have HN := Lib.hid hn
    clear hn
    go_enter Tryd.func20, Tryd.ntmps20
    go_wp2_with (first | (go_at_call 13; refine (placeR_c _ hx _).mono ?_; rw [HN.out]; rintro e w' ⟨rfl, rfl⟩))
    go_ret
    exact ⟨ret_float (nextF_nan HN.out).symm, rfl⟩
end Go.Proofs.YtddleibffkaenaaDoor
