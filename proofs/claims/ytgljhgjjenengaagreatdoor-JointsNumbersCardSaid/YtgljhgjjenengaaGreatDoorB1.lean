/- What the small functions of package math answer. -/
import Derived.Test.YtgljhgjjenengaaGreatDoorW
namespace Go.Proofs.YtgljhgjjenengaaGreatDoor
open Go Go.RowKit GFl
set_option maxRecDepth 100000
attribute [local go_sem] run_f64bits run_f64frombits run_neg_f64

/-- The word of a rung (a size without its sign). -/
def fabs (x : Nat) : Nat := rg x
theorem fabs_w (x : Nat) : W64 (fabs x) := W64.mk (by unfold fabs; rw [rg_eq]; omega)
theorem fabs_rg (x : Nat) : rg (fabs x) = rg x := by unfold fabs; rw [rg_eq, rg_eq]; omega
theorem fabs_neg (x : Nat) : neg (fabs x) = false := by unfold fabs; rw [neg_eq, rg_eq]; simp; omega
theorem fabs_isn (x : Nat) : isn (fabs x) = isn x := by rw [isn_eq, isn_eq, fabs_rg]
theorem fabs_plc (x : Nat) : plc (fabs x) = rg x := by rw [plc_eq, fabs_rg, fabs_neg]; rfl

theorem abs_c (x : Nat) (hx : W64 x) (w : World) : Calls Tryz.prog 46 #[.float .f64 x] w fun e w' => e = .returned (.float .f64 (fabs x)) ∧ w' = w := by
  have e : (bits BinOp.andNot IntKind.u64 (↑x) 9223372036854775808).toNat = fabs x := by
    have h := hx.lt
    have := u64_andNot_nat x 9223372036854775808 h (by decide)
    rw [show ((9223372036854775808 : Nat) : Int) = 9223372036854775808 from rfl] at this
    rw [this, fabs, rg_eq]
    show x &&& (2 ^ 63 - 1) = x % 2 ^ 63
    exact Nat.and_two_pow_sub_one_eq_mod x 63
  have E := Lib.hid e
  clear e
  go_enter Tryz.func46, Tryz.ntmps46
  go_wp2
  go_ret
  exact ⟨ret_float E.out, rfl⟩

theorem wrap64_neg {x : Nat} (hx : W64 x) : decide (wrap64 (x : Int) < 0) = neg x := by
  have h := hx.lt
  rw [neg_eq, decide_eq_decide]
  unfold wrap64
  omega

theorem signbit_c (x : Nat) (hx : W64 x) (w : World) : Calls Tryz.prog 40 #[.float .f64 x] w fun e w' => e = .returned (.bool (neg x)) ∧ w' = w := by
  go_enter Tryz.func40, Tryz.ntmps40
  go_wp2
  go_ret
  exact ⟨ret_bool (wrap64_neg hx), rfl⟩

theorem isNaN_c (x : Nat) (hx : W64 x) (w : World) : Calls Tryz.prog 38 #[.float .f64 x] w fun e w' => e = .returned (.bool (isn x)) ∧ w' = w := by
  go_enter Tryz.func38, Tryz.ntmps38
  go_wp2
  go_ret
  exact ⟨ret_bool (o_ne_self hx), rfl⟩

/-- An infinity of the sign that is asked for (0: any). -/
def infS (x : Nat) (s : Int) : Bool := decide (rg x = 9218868437227405312) && (decide (s = 0) || decide (s < 0) && neg x || decide (0 < s) && !neg x)

theorem gt_max {x : Nat} (hx : W64 x) : (FloatKind.f64.format.order x 9218868437227405311 == some .gt) = (decide (rg x = 9218868437227405312) && !neg x) := by
  have h1 := o_gt hx (W64.mk (by decide : 9218868437227405311 < 18446744073709551616))
  refine h1.trans ?_
  rw [isn_eq, isn_eq, plc_eq, plc_eq, neg_eq 9218868437227405311, rg_eq 9218868437227405311]
  generalize rg x = r
  cases neg x
  · simp only [Bool.false_eq_true, if_false, Bool.not_false, Bool.and_true]
    rw [Bool.eq_iff_iff]; simp; omega
  · simp only [if_true, Bool.not_true, Bool.and_false]
    rw [Bool.eq_false_iff]; simp

theorem isInf_c (x : Nat) (s : Int) (hx : W64 x) (w : World) : Calls Tryz.prog 39 #[.float .f64 x, .int .i64 s] w fun e w' => e = .returned (.bool (infS x s)) ∧ w' = w := by
  have e1 : s = 0 → (FloatKind.f64.format.order (fabs x) 9218868437227405311 == some .gt) = infS x s := by
    intro h; subst h; rw [gt_max (fabs_w x), fabs_rg, fabs_neg]; simp [infS]
  have e2 : s < 0 → (FloatKind.f64.format.order (fneg x) 9218868437227405311 == some .gt) = infS x s := by
    intro h; rw [gt_max (fneg_w hx), fneg_rg hx, fneg_neg hx]; have h1 : ¬ s = 0 := by omega
    have h2 : ¬ 0 < s := by omega
    simp [infS, h, h1, h2]
  have e3 : 0 < s → (FloatKind.f64.format.order x 9218868437227405311 == some .gt) = infS x s := by
    intro h; rw [gt_max hx]; have h1 : ¬ s = 0 := by omega
    have h2 : ¬ s < 0 := by omega
    simp [infS, h, h1, h2]
  have E1 := Lib.hid e1
  have E2 := Lib.hid e2
  have E3 := Lib.hid e3
  clear e1 e2 e3
  by_cases h0 : s = 0
  · have h : (s == 0) = true := by simp [h0]
    have H0 := Lib.hid h0
    clear h0
    go_enter Tryz.func39, Tryz.ntmps39
    go_wp2_with (go_at_call 46; refine (abs_c _ hx _).mono ?_; rintro e w' ⟨rfl, rfl⟩)
    go_ret
    exact ⟨ret_bool (E1.out H0.out), rfl⟩
  · have h : (s == 0) = false := by simp [h0]
    clear h0
    by_cases h1 : s < 0
    · go_enter Tryz.func39, Tryz.ntmps39
      go_wp2
      go_ret
      exact ⟨ret_bool (E2.out h1), rfl⟩
    · go_enter Tryz.func39, Tryz.ntmps39
      go_wp2
      go_ret
      exact ⟨ret_bool (E3.out (by simp at h; omega)), rfl⟩

/-- The size of the first, the sign of the second. -/
def csgn (x y : Nat) : Nat := wd (neg y) (rg x)
theorem u64_lo {x : Nat} (hx : x < 18446744073709551616) : bits BinOp.andNot IntKind.u64 (↑x) 9223372036854775808 = ((x % 9223372036854775808 : Nat) : Int) := by
  have := u64_andNot_nat x 9223372036854775808 hx (by decide)
  rw [show ((9223372036854775808 : Nat) : Int) = 9223372036854775808 from rfl] at this
  rw [this]
  congr 1
  show x &&& (2 ^ 63 - 1) = x % 2 ^ 63
  exact Nat.and_two_pow_sub_one_eq_mod x 63
theorem u64_hi {x : Nat} (hx : x < 18446744073709551616) : bits BinOp.and IntKind.u64 (↑x) 9223372036854775808 = ((if 9223372036854775808 ≤ x then 9223372036854775808 else 0 : Nat) : Int) := by
  have := u64_and_nat x 9223372036854775808 hx (by decide)
  rw [show ((9223372036854775808 : Nat) : Int) = 9223372036854775808 from rfl] at this
  rw [this]
  congr 1
  show x &&& 2 ^ 63 = _
  have h63 : x.testBit 63 = decide (9223372036854775808 ≤ x) := by
    rw [Nat.testBit_eq_decide_div_mod_eq, decide_eq_decide]; omega
  apply Nat.eq_of_testBit_eq
  intro i
  rw [Nat.testBit_and, Nat.testBit_two_pow]
  by_cases hi : 63 = i
  · subst hi
    rw [h63]
    by_cases h : 9223372036854775808 ≤ x
    · simp only [h, decide_true, if_true]; decide
    · simp [h]
  · simp only [hi, decide_false, Bool.and_false]
    by_cases h : 9223372036854775808 ≤ x
    · simp only [h, if_true]
      rw [show (9223372036854775808 : Nat) = 2 ^ 63 from rfl, Nat.testBit_two_pow]; simp [hi]
    · simp [h]
theorem csgn_bits {x y : Nat} (hx : W64 x) (hy : W64 y) : (bits BinOp.or IntKind.u64 (bits BinOp.andNot IntKind.u64 (↑x) 9223372036854775808) (bits BinOp.and IntKind.u64 (↑y) 9223372036854775808)).toNat = csgn x y := by
  rw [u64_lo hx.lt, u64_hi hy.lt]
  unfold csgn
  rw [wd_eq, neg_eq, rg_eq]
  have h1 : x % 9223372036854775808 < 2 ^ 63 := Nat.mod_lt _ (by decide)
  rw [u64_or_nat _ _ (by omega) (by split <;> omega)]
  generalize x % 9223372036854775808 = r at *
  by_cases h : 9223372036854775808 ≤ y
  · simp only [h, if_true, decide_true, Int.toNat_natCast]
    rw [Nat.or_comm]
    exact (Nat.two_pow_add_eq_or_of_lt h1 1).symm
  · simp [h]
theorem copysign_c (x y : Nat) (hx : W64 x) (hy : W64 y) (w : World) : Calls Tryz.prog 41 #[.float .f64 x, .float .f64 y] w fun e w' => e = .returned (.float .f64 (csgn x y)) ∧ w' = w := by
  have E := Lib.hid (csgn_bits hx hy)
  go_enter Tryz.func41, Tryz.ntmps41
  go_wp2
  go_ret
  exact ⟨ret_float E.out, rfl⟩
theorem inf_c (s : Int) (w : World) : Calls Tryz.prog 117 #[.int .i64 s] w fun e w' => e = .returned (.float .f64 (wd (decide (s < 0)) 9218868437227405312)) ∧ w' = w := by
  go_enter Tryz.func117, Tryz.ntmps117
  go_wp2
  all_goals go_ret
  · have h : ¬ s < 0 := by omega
    exact ⟨ret_float (by rw [wd_eq]; simp [h]), rfl⟩
  · have h : s < 0 := by omega
    exact ⟨ret_float (by rw [wd_eq]; simp [h]), rfl⟩
end Go.Proofs.YtgljhgjjenengaaGreatDoor
