/- What Split, Join and Ulp answer. -/
import Derived.Test.YtddleibffkaenaaDoorB4
import Derived.Test.YtddleibffkaenaaDoorLen
import Derived.Shelf.Spec.TrailingZeros
namespace Go.Proofs.YtddleibffkaenaaDoor
open Go Go.RowKit GFl
set_option maxRecDepth 100000
attribute [local go_sem] run_f64bits run_f64frombits run_neg_f64

/-- The table of math/bits lies as its text has it. -/
def Tab (w : World) : Prop := TabAt 1 Lib.deBruijn64tab w
theorem Tab.below {w w1 : World} (h : Tab w) (hb : Below w.heap.size w w1) : Tab w1 := fun j hj => by
  have hc := h j hj
  exact (hb.cell (World.block_lt_of_cell? w _ hc)).trans hc
theorem bl_alloc {w W : World} (h : Below w.heap.size w W) (o : Obj) : Below w.heap.size w (W.alloc o) := h.alloc h.size o
theorem bl_drewN {B : Nat} {w W : World} (h : Below B w W) (n : Nat) : Below B w (W.drewN n) := ⟨h.os, h.tape, h.output, h.size, h.block⟩
theorem bl_drew {B : Nat} {w W : World} (h : Below B w W) : Below B w W.drew := ⟨h.os, h.tape, h.output, h.size, h.block⟩
theorem bl_set {B : Nat} {w W : World} (h : Below B w W) {p : Addr} (v : Value) (hp : B ≤ p.block) : Below B w (W.setCell p v) := h.setCell hp v
theorem bl_then {w W W' : World} (h : Below w.heap.size w W) (h' : Below W.heap.size W W') : Below w.heap.size w W' := h.trans (h'.mono h.size)
theorem tz64_z (w : World) : Calls Tryd.prog 41 #[.int .u64 0] w fun e w' => e = .returned (.int .i64 64) ∧ w' = w := by
  go_enter Tryd.func41, Tryd.ntmps41
  go_wp2
  go_ret
  exact ⟨rfl, rfl⟩
theorem tz64_core (x k idx : Nat) (w : World) (hx0 : ((x : Int) == 0) = false)
    (key : IntKind.u64.wrap (bits BinOp.and IntKind.u64 (x : Int) (IntKind.u64.wrap (-(x : Int))) * 285870213051353865) / 288230376151711744 = (idx : Int))
    (hi : idx < 64) (hk : k < 64) (hcell : w.cell? ⟨1, idx, none⟩ = some (.int .u8 k)) :
    Calls Tryd.prog 41 #[.int .u64 x] w fun e w' => e = .returned (.int .i64 k) ∧ w' = w := by
  go_enter Tryd.func41, Tryd.ntmps41
  go_wp2_with (simp only [key])
  go_ret
  exact ⟨rfl, rfl⟩
theorem tz64_c (x : Nat) (hx : x < 18446744073709551616) (w : World) (hT : Tab w) :
    Calls Tryd.prog 41 #[.int .u64 x] w fun e w' => e = .returned (.int .i64 (Lib.ctz 64 x)) ∧ w' = w := by
  by_cases hx0 : x = 0
  · subst hx0
    exact tz64_z w
  · obtain ⟨hlow, hk⟩ := Lib.lowest_bit 64 x hx0 hx
    obtain ⟨hi, htab⟩ := Lib.deBruijn64_at _ hk
    have hcell := hT _ hi
    rw [htab] at hcell
    exact tz64_core x _ _ w (by simp; omega) (tz64_key x _ hx hx0 hlow) hi hk hcell

theorem f2u {z m : Nat} (hz : W64 z) (hf : rg z < 9218868437227405312) (hn : neg z = false) (hm : mg B52 (rg z) = m * p2 1074) (hm1 : m < 18446744073709551616) : floatToIntVal .f64 z .u64 = some (m : Int) := by
  have h := toInt_whole hz hf hn hm
  have h' : (FloatKind.f64.decode z).toInt .zero = some (m : Int) := h
  unfold floatToIntVal
  rw [h']
  have a1 : IntKind.u64.min = 0 := by decide
  have a2 : IntKind.u64.max = 18446744073709551615 := by decide
  simp only [a1, a2]
  rw [if_pos (by omega)]

def SplitPost (x : Nat) (w : World) (e : Ending) (w' : World) : Prop := ∃ fr ex, e = .returned (.tuple #[.agg #[.bool (neg x), .int .u64 (fr : Nat), .int .i64 ex], .bool true]) ∧ IsSplit x fr ex ∧ fr < 9007199254740992 ∧ ex ≤ 1023 ∧ Below w.heap.size w w'
theorem split_no (x : Nat) (hx : W64 x) (h : 9218868437227405312 ≤ rg x) (w : World) : Calls Tryd.prog 10 #[.float .f64 x] w fun e w' => e = .returned (.tuple #[.agg #[.bool false, .int .u64 0, .int .i64 0], .bool false]) ∧ Below w.heap.size w w' := by
  have hk : 2 < kindF x := by unfold kindF; (repeat' split) <;> omega
  go_enter Tryd.func10, Tryd.ntmps10
  go_wp2_with (go_at_call 17; refine (kind_c _ hx _).mono ?_; rintro e w' ⟨rfl, rfl⟩)
  exact bodyPost_ret (v := .tuple #[.agg #[.bool false, .int .u64 0, .int .i64 0], .bool false]) (by simp [results, Tryd.results10, go_sem]) rfl ⟨rfl, (Below.refl _ _).alloc (Nat.le_refl _) _⟩
set_option maxHeartbeats 2000000 in
theorem split_yes (x : Nat) (hx : W64 x) (h0 : 0 < rg x) (h1 : rg x < 9218868437227405312) (w : World) (hT : Tab w) : Calls Tryd.prog 10 #[.float .f64 x] w (SplitPost x w) := by
  have hk : ¬ 2 < kindF x := by unfold kindF; (repeat' split) <;> omega
  have k0 : (FloatKind.f64.format.order x 0 == some .eq) = false := by
    rw [t_eq hx (w_const (by decide)), plc0]
    have : ¬ plc x = 0 := by rw [plc_zero]; omega
    simp [this]
  go_enter Tryd.func10, Tryd.ntmps10
  go_wp2_with (first | (go_at_call 17; refine (kind_c _ hx _).mono ?_; rintro e w' ⟨rfl, rfl⟩) | (go_at_call 29; refine (signbit_c _ hx _).mono ?_; rintro e w' ⟨rfl, rfl⟩) | (go_at_call 24; refine (abs_c _ hx _).mono ?_; rintro e w' ⟨rfl, rfl⟩))
  refine (frexp_cc _ (fabs_w x) (by rw [fabs_rg]; exact h0) (by rw [fabs_rg]; exact h1) _).mono ?_
  rintro e w1 ⟨y, k, rfl, hn, ⟨⟨nq, rfl⟩⟩⟩
  have hk1 := hn.k1
  have hk2 := hn.k2
  have he2 := hn.E
  obtain ⟨E, hE⟩ : ∃ E, rg y / B52 = E := ⟨_, rfl⟩
  rw [hE]
  rw [hE] at he2
  have HE := Lib.hid hE
  clear hE
  have ht : rg y % B52 < B52 := Nat.mod_lt _ B52_pos
  have hR : 1022 * B52 + rg y % B52 < 9218868437227405312 := by unfold B52 at *; omega
  have hR63 : 1022 * B52 + rg y % B52 < 9223372036854775808 := by omega
  rw [fabs_neg]
  go_wp2_with fail
  refine (ldexp_cc _ _ (wd_w hR63) (by rw [wd_rg hR63]; unfold B52; omega) (by rw [wd_rg hR63]; exact hR) (by omega) (by omega) _).mono ?_
  rintro e w1 ⟨z, rfl, hl, ⟨⟨nq2, rfl⟩⟩⟩
  obtain ⟨z1, z2, z3, z4⟩ := split_m ht hl
  obtain ⟨m, hm⟩ : ∃ m, B52 + rg y % B52 = m := ⟨_, rfl⟩
  rw [hm] at z4
  have hm1 : m < 9007199254740992 := by unfold B52 at *; omega
  have hm0 : 0 < m := by unfold B52 at *; omega
  have hcv : ∀ w, (convert 22 23 (.float .f64 z)).run Tryd.prog w = .ok (.int .u64 (m : Nat)) w := fun w => run_convert_float_int w _ _ .f64 .u64 z m rfl rfl (f2u z1 z2 z3 z4 (by omega))
  obtain ⟨j, hj, hn63⟩ := Lib.ctzFrom_spec 64 m hm0 (by omega)
  have hct : Lib.ctz 64 m = Lib.ctzFrom 64 m := by unfold Lib.ctz; rw [if_neg (by omega)]
  rw [← hct] at hj hn63
  have Z := Lib.hid (And.intro z1 (And.intro z2 (And.intro z3 z4)))
  have HM := Lib.hid hm
  have HJ := Lib.hid hj
  clear z1 z2 z3 z4 hm hj hct ht hR hR63
  go_wp2_with fail
  refine (tz64_c m (by omega) _ ?_).mono ?_
  · exact hT.below (by repeat' (first | (with_reducible exact Below.refl _ _) | (with_reducible refine bl_alloc ?_ _) | (with_reducible refine bl_drewN ?_ _) | (with_reducible refine bl_drew ?_) | (with_reducible refine bl_set ?_ _ (by simp))))
  rintro e w1 ⟨rfl, rfl⟩
  go_wp2
  have hok := split_ok (n := Lib.ctz 64 m) (j := j) hn (by rw [p2_def]; exact HM.out.trans HJ.out)
  have hc53 : Lib.ctz 64 m < 53 := by
    rcases Nat.lt_or_ge (Lib.ctz 64 m) 53 with h | h
    · exact h
    · have h2 : 2 ^ 53 ≤ 2 ^ Lib.ctz 64 m := Nat.pow_le_pow_right (by decide) h
      have h3 := HJ.out
      have h4 : 2 ^ Lib.ctz 64 m ≤ 2 ^ Lib.ctz 64 m * (2 * j + 1) := Nat.le_mul_of_pos_right _ (by omega)
      omega
  rw [HE.out] at hok
  have hdiv : (m : Int) / 2 ^ Lib.ctz 64 m = ((2 * j + 1 : Nat) : Int) := by
    have h1 : m / 2 ^ Lib.ctz 64 m = 2 * j + 1 := by
      have := HJ.out
      conv => lhs; lhs; rw [this]
      exact Nat.mul_div_cancel_left _ (Nat.two_pow_pos _)
    rw [← h1]; simp
  have hlt : 2 * j + 1 < 9007199254740992 := by
    have h1 : m / 2 ^ Lib.ctz 64 m ≤ m := Nat.div_le_self _ _
    have h2 : m / 2 ^ Lib.ctz 64 m = 2 * j + 1 := by
      have := HJ.out
      conv => lhs; lhs; rw [this]
      exact Nat.mul_div_cancel_left _ (Nat.two_pow_pos _)
    omega
  refine bodyPost_ret (v := .tuple #[.agg #[.bool (neg x), .int .u64 ((m : Int) / 2 ^ Lib.ctz 64 m), .int .i64 (k + (E : Int) - 1022 - 53 + (Lib.ctz 64 m : Nat))], .bool true]) (by simp [results, Tryd.results10, go_sem]) rfl ?_
  rw [hdiv]
  refine ⟨2 * j + 1, k + (E : Int) - 1022 - 53 + (Lib.ctz 64 m : Nat), rfl, ?_, hlt, by omega, ?_⟩
  · exact ⟨hok.odd, hok.lo, by rw [hok.eq, fabs_rg]⟩
  · repeat' (first | (with_reducible exact Below.refl _ _) | (with_reducible refine bl_alloc ?_ _) | (with_reducible refine bl_drewN ?_ _) | (with_reducible refine bl_drew ?_) | (with_reducible refine bl_set ?_ _ (by simp)))
theorem split_z (x : Nat) (hx : W64 x) (h0 : rg x = 0) (w : World) : Calls Tryd.prog 10 #[.float .f64 x] w fun e w' => e = .returned (.tuple #[.agg #[.bool (neg x), .int .u64 0, .int .i64 0], .bool true]) ∧ Below w.heap.size w w' := by
  have hk : ¬ 2 < kindF x := by unfold kindF; (repeat' split) <;> omega
  have k0 : (FloatKind.f64.format.order x 0 == some .eq) = true := by
    rw [t_eq hx (w_const (by decide)), plc0, isn0, isn_eq]
    have : plc x = 0 := by rw [plc_zero]; exact h0
    simp [this, h0]
  go_enter Tryd.func10, Tryd.ntmps10
  go_wp2_with (first | (go_at_call 17; refine (kind_c _ hx _).mono ?_; rintro e w' ⟨rfl, rfl⟩) | (go_at_call 29; refine (signbit_c _ hx _).mono ?_; rintro e w' ⟨rfl, rfl⟩))
  refine bodyPost_ret (v := .tuple #[.agg #[.bool (neg x), .int .u64 0, .int .i64 0], .bool true]) (by simp [results, Tryd.results10, go_sem]) rfl ⟨rfl, ?_⟩
  repeat' (first | (with_reducible exact Below.refl _ _) | (with_reducible refine bl_alloc ?_ _) | (with_reducible refine bl_drewN ?_ _) | (with_reducible refine bl_drew ?_) | (with_reducible refine bl_set ?_ _ (by simp)))
end Go.Proofs.YtddleibffkaenaaDoor
