/- What frexp, ldexp and their callees of package math answer. -/
import Derived.Test.YtddleibffkaenaaDoorB3
import Derived.Test.YtddleibffkaenaaDoorS2
namespace Go.Proofs.YtddleibffkaenaaDoor
open Go Go.RowKit GFl
set_option maxRecDepth 100000
attribute [local go_sem] run_f64bits run_f64frombits run_neg_f64

theorem fr_some {k : FloatKind} {z r : Nat} {o : Option Nat} (h : FR k o r) (e : o = some z) : r = z := by rw [e] at h; exact h

def NormPost (x : Nat) (w : World) (e : Ending) (w' : World) : Prop := ∃ y k, e = .returned (.tuple #[.float .f64 y, .int .i64 k]) ∧ Normd x y k ∧ Dr w w'
theorem normalize_c (x : Nat) (hx : W64 x) (h0 : 0 < rg x) (h1 : rg x < 9218868437227405312) (w : World) : Calls Tryd.prog 59 #[.float .f64 x] w (NormPost x w) := by
  have k : (FloatKind.f64.format.order (fabs x) 4503599627370496 == some .lt) = decide (rg x < 4503599627370496) := by
    rw [t_lt (fabs_w x) (w_const (by decide)), fabs_isn, fabs_plc, isn_eq, isn_eq, plc_eq, neg_eq, rg_eq 4503599627370496, Bool.eq_iff_iff]; simp; omega
  by_cases hs : rg x < 4503599627370496
  · obtain ⟨y, hy, hn⟩ := normd_mul hx h0 hs
    have k2 : decide (rg x < 4503599627370496) = true := by simp [hs]
    rw [k2] at k
    have HY := Lib.hid hy
    clear hy k2
    go_enter Tryd.func59, Tryd.ntmps59
    go_wp2_with (first | (go_at_call 24; refine (abs_c _ hx _).mono ?_; rintro e w' ⟨rfl, rfl⟩) | (refine wp_arith .f64 x 4841369599423283200 rfl rfl rfl ?_; intro r n hr; obtain rfl := fr_some hr HY.out; clear hr))
    go_ret2
    exact ⟨_, _, rfl, hn, Dr.n _ _⟩
  · have k2 : decide (rg x < 4503599627370496) = false := by simp [hs]
    rw [k2] at k
    clear k2
    go_enter Tryd.func59, Tryd.ntmps59
    go_wp2_with (first | (go_at_call 24; refine (abs_c _ hx _).mono ?_; rintro e w' ⟨rfl, rfl⟩))
    go_ret2
    exact ⟨_, _, rfl, normd_id hx (by unfold B52; omega) h1, Dr.refl _⟩

theorem exp_u64 {y : Nat} (hy : W64 y) : bits BinOp.and IntKind.u64 ((y : Int) / 4503599627370496) 2047 = ((rg y / B52 : Nat) : Int) := by
  have h := hy.lt
  have e : ((y : Int) / 4503599627370496) = ((y / 4503599627370496 : Nat) : Int) := by omega
  have := u64_and_nat (y / 4503599627370496) 2047 (by omega) (by decide)
  rw [e, show (2047 : Int) = ((2047 : Nat) : Int) from rfl, this, rg_eq]
  congr 1
  rw [show (2047 : Nat) = 2 ^ 11 - 1 from rfl, Nat.and_two_pow_sub_one_eq_mod]
  unfold B52
  omega
theorem bits_and_i64_nat (a b : Nat) (ha : a < 9223372036854775808) (hb : b < 9223372036854775808) : bits BinOp.and IntKind.i64 (a : Int) (b : Int) = ((a &&& b : Nat) : Int) := by
  have h1 : (BitVec.ofInt 64 (a : Int)).toNat = a := by rw [BitVec.ofInt_natCast, BitVec.toNat_ofNat]; exact Nat.mod_eq_of_lt (by omega)
  have h2 : (BitVec.ofInt 64 (b : Int)).toNat = b := by rw [BitVec.ofInt_natCast, BitVec.toNat_ofNat]; exact Nat.mod_eq_of_lt (by omega)
  show IntKind.i64.wrap ((BitVec.ofInt 64 (a : Int) &&& BitVec.ofInt 64 (b : Int)).toNat : Int) = _
  rw [BitVec.toNat_and, h1, h2, IntKind.wrap_i64]
  have : a &&& b ≤ a := Nat.and_le_left
  omega
theorem exp_i64 {y : Nat} (hy : W64 y) : bits BinOp.and IntKind.i64 (wrap64 ((y : Int) / 4503599627370496)) 2047 = ((rg y / B52 : Nat) : Int) := by
  have h := hy.lt
  have e : wrap64 ((y : Int) / 4503599627370496) = ((y / 4503599627370496 : Nat) : Int) := by unfold wrap64; omega
  have := bits_and_i64_nat (y / 4503599627370496) 2047 (by omega) (by decide)
  rw [e, show (2047 : Int) = ((2047 : Nat) : Int) from rfl, this, rg_eq]
  congr 1
  rw [show (2047 : Nat) = 2 ^ 11 - 1 from rfl, Nat.and_two_pow_sub_one_eq_mod]
  unfold B52
  omega
theorem normd_at64 {x y : Nat} {e : Int} (h : Normd x y e) : ∃ E : Nat, Hid (rg y / B52 = E) ∧ 1 ≤ E ∧ E ≤ 2046 ∧ bits BinOp.and IntKind.u64 ((y : Int) / 4503599627370496) 2047 = (E : Int) ∧ bits BinOp.and IntKind.i64 (wrap64 ((y : Int) / 4503599627370496)) 2047 = (E : Int) ∧ (FloatKind.f64.format.order y 0 == some .lt) = neg x :=
  ⟨rg y / B52, Lib.hid rfl, (Nat.one_le_div_iff B52_pos).2 h.lo, Nat.le_of_lt_succ h.E, exp_u64 h.w, exp_i64 h.w, by
    rw [t_lt h.w (w_const (by decide)), plc0, isn0, isn_eq, ← h.s, Bool.eq_iff_iff]
    have h1 := h.hi
    have h2 := h.lo
    unfold B52 at h2
    simp only [Bool.and_eq_true, Bool.not_eq_true', decide_eq_false_iff_not, decide_eq_true_eq, plc_lt_zero]
    constructor
    · intro h3; exact h3.2.1
    · intro h3; exact ⟨⟨by omega, by decide⟩, h3, by omega⟩⟩
theorem u64_keep {x E : Nat} (hx : W64 x) (hE : E < 2048) : bits BinOp.or IntKind.u64 (bits BinOp.andNot IntKind.u64 (↑x) 9218868437227405312) ((E * B52 : Nat) : Int) = ((wd (neg x) (E * B52 + rg x % B52) : Nat) : Int) := by
  have h := hx.lt
  have h1 := u64_andNot_nat x 9218868437227405312 h (by decide)
  rw [show ((9218868437227405312 : Nat) : Int) = 9218868437227405312 from rfl] at h1
  have h2 : x &&& (18446744073709551615 - 9218868437227405312) = (if 9223372036854775808 ≤ x then 9223372036854775808 else 0) ||| x % B52 := by
    rw [show (18446744073709551615 - 9218868437227405312 : Nat) = 2 ^ 63 ||| (2 ^ 52 - 1) from by decide, Nat.and_or_distrib_left, Nat.and_two_pow_sub_one_eq_mod]
    congr 1
    have h3 := u64_hi h
    have h4 := u64_and_nat x 9223372036854775808 h (by decide)
    rw [show ((9223372036854775808 : Nat) : Int) = 9223372036854775808 from rfl] at h4
    rw [h4] at h3
    exact Int.ofNat_inj.1 h3
  have ht : x % B52 < 2 ^ 52 := Nat.mod_lt _ B52_pos
  have hrt : rg x % B52 = x % B52 := by rw [rg_eq]; unfold B52; omega
  have hs : (if 9223372036854775808 ≤ x then 9223372036854775808 else 0) ||| x % B52 = (if 9223372036854775808 ≤ x then 9223372036854775808 else 0) + x % B52 := by
    split
    · exact (Nat.two_pow_add_eq_or_of_lt (i := 63) (by unfold B52 at *; omega) 1).symm
    · simp
  rw [h1, h2, u64_or_nat _ _ (by rw [hs]; split <;> unfold B52 at * <;> omega) (by unfold B52; omega)]
  congr 1
  have h5 : x % B52 ||| E * B52 = E * B52 + x % B52 := by
    rw [Nat.or_comm, show E * B52 = 2 ^ 52 * E from by unfold B52; omega]
    exact (Nat.two_pow_add_eq_or_of_lt ht E).symm
  rw [Nat.or_assoc, h5, wd_eq, neg_eq, hrt]
  by_cases hh : 9223372036854775808 ≤ x
  · simp only [hh, if_true, decide_true]
    exact (Nat.two_pow_add_eq_or_of_lt (i := 63) (by unfold B52 at *; omega) 1).symm
  · simp [hh]
def FrexpPost (x : Nat) (w : World) (e : Ending) (w' : World) : Prop := ∃ y k, e = .returned (.tuple #[.float .f64 (wd (neg x) (1022 * B52 + rg y % B52)), .int .i64 (k + (rg y / B52 : Nat) - 1022)]) ∧ Normd x y k ∧ Dr w w'
theorem frexp_c (x : Nat) (hx : W64 x) (h0 : 0 < rg x) (h1 : rg x < 9218868437227405312) (w : World) : Calls Tryd.prog 53 #[.float .f64 x] w (FrexpPost x w) := by
  have k0 : (FloatKind.f64.format.order x 0 == some .eq) = false := by
    rw [t_eq hx (w_const (by decide)), plc0]
    have : ¬ plc x = 0 := by rw [plc_zero]; omega
    simp [this]
  have k1 : infS x 0 = false := by
    have : ¬ rg x = 9218868437227405312 := by omega
    simp [infS, this]
  have k2 : isn x = false := by rw [isn_eq]; simp; omega
  go_enter Tryd.func53, Tryd.ntmps53
  go_wp2_with (first | (go_at_call 22; refine (isInf_c _ _ hx _).mono ?_; rintro e w' ⟨rfl, rfl⟩) | (go_at_call 58; refine (isNaN_c _ hx _).mono ?_; rintro e w' ⟨rfl, rfl⟩) | (go_at_call 59; refine (normalize_c _ hx h0 h1 _).mono ?_; rintro e w' ⟨y, k, rfl, hn, ⟨⟨nq, rfl⟩⟩⟩; have hk1 := hn.k1; have hk2 := hn.k2; obtain ⟨E, HE, he1, he2, hy, hy', hy2⟩ := normd_at64 hn))
  go_ret2
  refine ⟨y, k, ret_float_int ?_ ?_, hn, Dr.n _ _⟩
  · have := u64_keep hn.w (E := 1022) (by decide)
    rw [show ((1022 * B52 : Nat) : Int) = 4602678819172646912 from by decide] at this
    rw [this, hn.s]; rfl
  · rw [HE.out]; omega
theorem frexp_cc (x : Nat) (hx : W64 x) (h0 : 0 < rg x) (h1 : rg x < 9218868437227405312) (w : World) : Calls Tryd.prog 39 #[.float .f64 x] w (FrexpPost x w) := by
  go_enter Tryd.func39, Tryd.ntmps39
  go_wp2_with (first | (go_at_call 53; refine (frexp_c _ hx h0 h1 _).mono ?_; rintro e w' ⟨y, k, rfl, hn, ⟨⟨nq, rfl⟩⟩⟩))
  go_ret2
  exact ⟨y, k, rfl, hn, Dr.n _ _⟩
theorem csgn0 (y : Nat) : csgn 0 y = wd (neg y) 0 := by unfold csgn; rw [show rg 0 = 0 from by decide]
theorem ld_bits {y : Nat} (hy : W64 y) (X : Int) (h0 : 0 ≤ X) (h1 : X < 2048) : (bits BinOp.or IntKind.u64 (bits BinOp.andNot IntKind.u64 (↑y) 9218868437227405312) (X * 4503599627370496)).toNat = wd (neg y) (X.toNat * B52 + rg y % B52) := by
  have := u64_keep hy (E := X.toNat) (by omega)
  have e : ((X.toNat * B52 : Nat) : Int) = X * 4503599627370496 := by unfold B52; omega
  rw [e] at this
  rw [this]; rfl
def LdexpPost (x : Nat) (k : Int) (w : World) (e : Ending) (w' : World) : Prop := ∃ z, e = .returned (.float .f64 z) ∧ IsLd x k z ∧ Dr w w'
theorem ldexp_c (x : Nat) (k : Int) (hx : W64 x) (h0 : 0 < rg x) (h1 : rg x < 9218868437227405312) (hk1 : -100000 ≤ k) (hk2 : k ≤ 100000) (w : World) : Calls Tryd.prog 55 #[.float .f64 x, .int .i64 k] w (LdexpPost x k w) := by
  have k0 : (FloatKind.f64.format.order x 0 == some .eq) = false := by
    rw [t_eq hx (w_const (by decide)), plc0]
    have : ¬ plc x = 0 := by rw [plc_zero]; omega
    simp [this]
  have k1 : infS x 0 = false := by
    have : ¬ rg x = 9218868437227405312 := by omega
    simp [infS, this]
  have k2 : isn x = false := by rw [isn_eq]; simp; omega
  go_enter Tryd.func55, Tryd.ntmps55
  go_wp2_with (first | (go_at_call 22; refine (isInf_c _ _ hx _).mono ?_; rintro e w' ⟨rfl, rfl⟩) | (go_at_call 58; refine (isNaN_c _ hx _).mono ?_; rintro e w' ⟨rfl, rfl⟩) | (go_at_call 59; refine (normalize_c _ hx h0 h1 _).mono ?_; rintro e w' ⟨y, e1, rfl, hn, ⟨⟨nq, rfl⟩⟩⟩; have hq1 := hn.k1; have hq2 := hn.k2; obtain ⟨E, HE, he1, he2, hy, hy', hy2⟩ := normd_at64 hn) | (go_at_call 36; refine (copysign_c _ _ (w_const (by decide)) hn.w _).mono ?_; rintro e w' ⟨rfl, rfl⟩) | (go_at_call 38; refine (inf_c _ _).mono ?_; rintro e w' ⟨rfl, rfl⟩) | (refine wp_arith .f64 _ _ rfl rfl rfl ?_; intro r n hr))
  all_goals go_ret
  · exact ⟨_, rfl, by rw [csgn0, hn.s]; exact isLd_under hn (e := k) (k + e1 + ((E : Int) - 1023)) (by rw [HE.out]; omega) (by assumption), Dr.n _ _⟩
  · refine ⟨_, rfl, ?_, Dr.n _ _⟩
    have h := isLd_over hn (e := k) (k + e1 + ((E : Int) - 1023)) (by rw [HE.out]; omega) (by assumption)
    rw [‹neg x = true›] at h
    exact h
  · refine ⟨_, rfl, ?_, Dr.n _ _⟩
    have h := isLd_over hn (e := k) (k + e1 + ((E : Int) - 1023)) (by rw [HE.out]; omega) (by assumption)
    rw [‹neg x = false›] at h
    exact h
  · obtain ⟨z, hz, hl⟩ := isLd_sub hn (e := k) (k + e1 + ((E : Int) - 1023)) (by rw [HE.out]; omega) (by assumption) (by assumption)
    rw [← hn.s, ← ld_bits hn.w _ (by omega) (by omega)] at hz
    obtain rfl := fr_some hr hz
    exact ⟨_, rfl, hl, Dr.n _ _⟩
  · have hl := isLd_norm hn (e := k) (k + e1 + ((E : Int) - 1023)) (by rw [HE.out]; omega) (by assumption) (by assumption)
    have hR : (k + e1 + ((E : Int) - 1023) + 1023).toNat * B52 + rg y % B52 < 9218868437227405312 := by
      have := Nat.mod_lt (rg y) B52_pos
      unfold B52 at *
      omega
    have hz := mul_one64 (wd_w (s := neg y) (r := (k + e1 + ((E : Int) - 1023) + 1023).toNat * B52 + rg y % B52) (by omega)) (by rw [wd_rg (by omega)]; exact hR)
    rw [← ld_bits hn.w _ (by omega) (by omega)] at hz
    obtain rfl := fr_some hr hz
    rw [ld_bits hn.w _ (by omega) (by omega), hn.s]
    exact ⟨_, rfl, hl, Dr.n _ _⟩
theorem ldexp_cc (x : Nat) (k : Int) (hx : W64 x) (h0 : 0 < rg x) (h1 : rg x < 9218868437227405312) (hk1 : -100000 ≤ k) (hk2 : k ≤ 100000) (w : World) : Calls Tryd.prog 40 #[.float .f64 x, .int .i64 k] w (LdexpPost x k w) := by
  go_enter Tryd.func40, Tryd.ntmps40
  go_wp2_with (first | (go_at_call 55; refine (ldexp_c _ _ hx h0 h1 hk1 hk2 _).mono ?_; rintro e w' ⟨z, rfl, hl, ⟨⟨nq, rfl⟩⟩⟩))
  go_ret
  exact ⟨z, rfl, hl, Dr.n _ _⟩
/-- Of a nought: itself. -/
theorem ldexp_0 (x : Nat) (k : Int) (hx : W64 x) (h0 : rg x = 0) (w : World) : Calls Tryd.prog 55 #[.float .f64 x, .int .i64 k] w fun e w' => e = .returned (.float .f64 x) ∧ w' = w := by
  have k0 : (FloatKind.f64.format.order x 0 == some .eq) = true := by
    rw [t_eq hx (w_const (by decide)), plc0, isn0, isn_eq]
    have : plc x = 0 := by rw [plc_zero]; exact h0
    simp [this, h0]
  go_enter Tryd.func55, Tryd.ntmps55
  go_wp2
  go_ret
  exact ⟨rfl, rfl⟩
theorem ldexp_00 (x : Nat) (k : Int) (hx : W64 x) (h0 : rg x = 0) (w : World) : Calls Tryd.prog 40 #[.float .f64 x, .int .i64 k] w fun e w' => e = .returned (.float .f64 x) ∧ w' = w := by
  go_enter Tryd.func40, Tryd.ntmps40
  go_wp2_with (first | (go_at_call 55; refine (ldexp_0 _ _ hx h0 _).mono ?_; rintro e w' ⟨rfl, rfl⟩))
  go_ret
  exact ⟨rfl, rfl⟩
end Go.Proofs.YtddleibffkaenaaDoor
