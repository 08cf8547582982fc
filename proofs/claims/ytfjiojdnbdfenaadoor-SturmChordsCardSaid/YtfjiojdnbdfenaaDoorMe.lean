import Derived.Test.YtfjiojdnbdfenaaDoorMd
import Derived.Test.YtfjiojdnbdfenaaDoorMb
import Derived.Deep.RegionHeld3
/- Differences, halves and doubles of float64s; the middle of two neighbours; what lies between them. Plain. -/
namespace GFl
open Ieee

theorem read_fneg {y : Nat} (hy : W64 y) : double.read (fneg y) = (double.read y).opposite := by
  have h1 : W64 (fneg y) := fneg_w hy
  have r : fneg y % double.signWeight = y % double.signWeight := fneg_rg hy
  have s : (fneg y / double.signWeight % 2 == 1) = !(y / double.signWeight % 2 == 1) := by rw [sgn_eq h1, sgn_eq hy]; exact fneg_neg hy
  unfold Format.read
  simp only [r, s]
  (repeat' split) <;> rfl
theorem sub_add {x y : Nat} (hy : W64 y) : double.sub x y = double.add x (fneg y) := by unfold Format.sub Format.add; rw [read_fneg hy]
/-- The difference of two finite float64s. -/
theorem sub64 {x y : Nat} (hx : W64 x) (hy : W64 y) (hx1 : rg x < 9218868437227405312) (hy1 : rg y < 9218868437227405312) :
    ∃ r, IsRn 4503599627370496 (val x - val y).natAbs 1 r ∧
      double.sub x y = some (wd (if val x - val y = 0 then neg x && !neg y else decide (val x - val y < 0)) (min r 9218868437227405312)) := by
  have h := add64 hx (fneg_w hy) hx1 (by rw [fneg_rg hy]; exact hy1)
  rw [fneg_val hy, fneg_neg hy, ← Int.sub_eq_add_neg] at h
  rw [sub_add hy]
  exact h
theorem sub_self_fin {x : Nat} (hx : W64 x) (h : rg x < 9218868437227405312) : double.sub x x = some 0 := by
  obtain ⟨r, hr, e⟩ := sub64 hx hx h h
  rw [Int.sub_self, Int.natAbs_zero] at hr
  rw [e, hr.unique B52_pos (by decide) (IsRn.zero B52_pos (by decide)), Int.sub_self, if_pos rfl]
  cases neg x <;> decide
theorem sub_self_no {x : Nat} (hx : W64 x) (h : 9218868437227405312 ≤ rg x) : double.sub x x = none := by
  unfold Format.sub
  rcases Nat.lt_or_eq_of_le h with h1 | h1
  · rw [read_nan hx (by rw [d_inf]; exact h1) good_double]; rfl
  · rw [read_inf hx (by rw [d_inf]; exact h1.symm) good_double]
    cases sgn double x <;> rfl

/-- The quotient of two finite float64s. -/
theorem div64 {x y : Nat} (hx : W64 x) (hy : W64 y) (hx1 : rg x < 9218868437227405312) (hy1 : rg y < 9218868437227405312) (hy0 : rg y ≠ 0) :
    ∃ r, IsRn 4503599627370496 (mg 4503599627370496 (rg x) * p2 1074) (mg 4503599627370496 (rg y)) r ∧ double.div x y = some (wd (neg x ^^ neg y) (min r 9218868437227405312)) := by
  have h := div_fin good_double hx hy (by rw [d_inf]; exact hx1) (by rw [d_inf]; exact hy1) hy0 (by decide)
  have e : (-double.leastPlace).toNat = 1074 := by decide
  rw [d_b, ← p2_def, e, d_inf] at h
  exact h
theorem two_rg : rg 4611686018427387904 = 4611686018427387904 := by decide
theorem two_mg : mg B52 (rg 4611686018427387904) = p2 1074 * 2 := by rw [two_rg]; decide +kernel
theorem two_neg : neg 4611686018427387904 = false := by decide
theorem two_w : W64 4611686018427387904 := w_const (by decide)
theorem half64 {x q : Nat} (hx : W64 x) (hx1 : rg x < 9218868437227405312) (hq : q ≤ 9218868437227405312) (h : mg B52 (rg x) = 2 * mg B52 q) : double.div x 4611686018427387904 = some (wd (neg x) q) := by
  obtain ⟨r, hr, e⟩ := div64 hx two_w hx1 (by rw [two_rg]; decide) (by rw [two_rg]; decide)
  rw [two_mg, h] at hr
  have := p2_pos 1074
  rw [e, rn_exact B52_pos (by omega) hr (q := q) (by rw [Nat.mul_comm 2, Nat.mul_assoc, Nat.mul_comm 2]), two_neg, Bool.xor_false, Nat.min_eq_left hq]
theorem dbl64 {x q : Nat} (hx : W64 x) (hx1 : rg x < 9218868437227405312) (hq : q ≤ 9218868437227405312) (h : 2 * mg B52 (rg x) = mg B52 q) : double.mul x 4611686018427387904 = some (wd (neg x) q) := by
  obtain ⟨r, hr, e⟩ := mul64 hx two_w hx1 (by rw [two_rg]; decide)
  rw [two_mg] at hr
  rw [e, rn_exact B52_pos (p2_pos 1074) hr (q := q) (by rw [← h, Nat.mul_comm (p2 1074), ← Nat.mul_assoc, Nat.mul_comm 2]), two_neg, Bool.xor_false, Nat.min_eq_left hq]

theorem has_half {r : Nat} (h : 2 * B52 ≤ r) : ∃ q, mg B52 r = 2 * mg B52 q ∧ q ≤ r := by
  have h2 : 2 ≤ r / B52 := (Nat.le_div_iff_mul_le B52_pos).2 h
  obtain ⟨q, hq⟩ := rep (B := B52) (B52 + r % B52) (r / B52 - 2) (by have := Nat.mod_lt r B52_pos; omega)
  have e : mg B52 r = 2 * mg B52 q := by
    rw [mg_norm (by omega), hq, show r / B52 - 1 = r / B52 - 2 + 1 by omega, p2_add, show p2 1 = 2 by decide +kernel, ← Nat.mul_assoc, Nat.mul_comm]
  exact ⟨q, e, (mg_le_iff B52_pos).1 (by omega)⟩

theorem val_wd {s : Bool} {r : Nat} (h : r < 9223372036854775808) : val (wd s r) = if s then -(mg B52 r : Int) else (mg B52 r : Int) := by rw [val_eq', wd_rg h, wd_neg h]

/-- The middle of two neighbours, by halves: it is one of them. -/
theorem mid64 {s : Bool} {i j : Nat} (hi : 2 * B52 ≤ i) (hj : 2 * B52 ≤ j) (hi1 : i < 9218868437227405312) (hj1 : j < 9218868437227405312) (hn : j = i + 1 ∨ i = j + 1) :
    ∃ a b m, double.div (wd s i) 4611686018427387904 = some a ∧ double.div (wd s j) 4611686018427387904 = some b ∧ double.add a b = some m ∧ (m = wd s i ∨ m = wd s j) := by
  obtain ⟨p, hp, hp1⟩ := has_half hi
  obtain ⟨q, hq, hq1⟩ := has_half hj
  have d1 := half64 (x := wd s i) (q := p) (wd_w (by omega)) (by rw [wd_rg (by omega)]; omega) (by omega) (by rw [wd_rg (by omega)]; exact hp)
  have d2 := half64 (x := wd s j) (q := q) (wd_w (by omega)) (by rw [wd_rg (by omega)]; omega) (by omega) (by rw [wd_rg (by omega)]; exact hq)
  rw [wd_neg (by omega)] at d1 d2
  obtain ⟨r, hr, e⟩ := add64 (x := wd s p) (y := wd s q) (wd_w (by omega)) (wd_w (by omega)) (by rw [wd_rg (by omega)]; omega) (by rw [wd_rg (by omega)]; omega)
  refine ⟨_, _, _, d1, d2, e, ?_⟩
  have hm : 0 < mg B52 i := Nat.lt_of_lt_of_le (by decide) (Nat.le_trans hi (le_mg B52 i B52_pos))
  have hv : (val (wd s p) + val (wd s q)).natAbs = mg B52 p + mg B52 q := by
    rw [val_wd (by omega), val_wd (by omega)]; cases s <;> simp <;> omega
  have hs : (if val (wd s p) + val (wd s q) = 0 then neg (wd s p) && neg (wd s q) else decide (val (wd s p) + val (wd s q) < 0)) = s := by
    rw [if_neg (by omega), val_wd (by omega), val_wd (by omega)]
    cases s <;> simp <;> omega
  rw [hv] at hr
  rw [hs]
  rcases hn with rfl | rfl
  · have l := mg_lt_succ B52 i B52_pos
    have h1 := rn_ge (q := i) B52_pos (by decide) hr (by omega)
    have h2 := rn_le (q := i + 1) B52_pos (by decide) hr (by omega)
    rcases Nat.lt_or_ge i r with h | h
    · right; rw [show r = i + 1 by omega, Nat.min_eq_left (by omega)]
    · left; rw [show r = i by omega, Nat.min_eq_left (by omega)]
  · have l := mg_lt_succ B52 j B52_pos
    have h1 := rn_ge (q := j) B52_pos (by decide) hr (by omega)
    have h2 := rn_le (q := j + 1) B52_pos (by decide) hr (by omega)
    rcases Nat.lt_or_ge j r with h | h
    · left; rw [show r = j + 1 by omega, Nat.min_eq_left (by omega)]
    · right; rw [show r = j by omega, Nat.min_eq_left (by omega)]

/-- How far the next of greater size lies. -/
theorem far64 {k : Nat} (hk : k + 1 < 9218868437227405312) : ∃ q, double.sub (wd false (k + 1)) (wd false k) = some (wd false q) ∧ q < 9218868437227405312 ∧ mg B52 q = p2 (max (k / B52) 1 - 1) := by
  obtain ⟨r, hr, e⟩ := sub64 (x := wd false (k + 1)) (y := wd false k) (wd_w (by omega)) (wd_w (by omega)) (by rw [wd_rg (by omega)]; omega) (by rw [wd_rg (by omega)]; omega)
  have hu : mg B52 (k + 1) = mg B52 k + p2 (max (k / B52) 1 - 1) := by
    rw [mg_succ _ _ B52_pos, p2_def, show max (k / B52) 1 - 1 = k / B52 - 1 by omega]; rfl
  have hv : val (wd false (k + 1)) - val (wd false k) = (p2 (max (k / B52) 1 - 1) : Nat) := by
    rw [val_wd (by omega), val_wd (by omega), hu]; simp; omega
  have hp := p2_pos (max (k / B52) 1 - 1)
  obtain ⟨q, hq⟩ := rep (B := B52) 1 (max (k / B52) 1 - 1) (by decide)
  rw [Nat.one_mul] at hq
  have hq1 : q ≤ k + 1 := (mg_le_iff B52_pos).1 (by omega)
  rw [hv] at hr e
  refine ⟨q, ?_, by omega, hq⟩
  rw [e, rn_exact (q := q) B52_pos (by decide) hr (by rw [hq]; omega), if_neg (by omega), Nat.min_eq_left (by omega)]
  congr 2
end GFl


/- sturm.Right, wrong, Exact. -/
namespace Go.Proofs.YtfjiojdnbdfenaaDoor
open Go Go.RowKit Nv GFl
open Go.Proofs.YtfjiojdnbdfenaaDoorW.PrintWords (Kd)
set_option maxRecDepth 100000
set_option linter.unusedSimpArgs false

def okF (x : Nat) : Bool := decide (rg x ≤ 6858982232485265408)
def rightB (d o : List Nat) : Bool := decide (1 ≤ d.length ∧ d.length ≤ 64 ∧ o.length + 1 = d.length) && (d.all okF && o.all okF)
theorem abs_le (x : Nat) : (FloatKind.f64.format.order (fabs x) 6858982232485265408 == some .lt || FloatKind.f64.format.order (fabs x) 6858982232485265408 == some .eq) = okF x := by
  rw [t_le (fabs_w x) (w_const (by decide)), fabs_isn, fabs_plc]
  have e1 : isn 6858982232485265408 = false := by decide
  have e2 : plc 6858982232485265408 = 6858982232485265408 := by decide
  rw [e1, e2]
  unfold okF
  rw [isn_eq, Bool.eq_iff_iff]
  simp
  omega
theorem allT {p : Nat → Bool} {l : List Nat} {k : Nat} (hk : k < l.length) (h : (l.take k).all p = true) (h1 : p l[k] = true) : (l.take (k + 1)).all p = true := by
  rw [List.take_succ_eq_append_getElem hk, List.all_append, h]; simp [h1]
theorem allN {p : Nat → Bool} {l : List Nat} {k : Nat} (hk : k < l.length) (h1 : p l[k] = false) : l.all p = false := by
  rw [List.all_eq_false]
  exact ⟨l[k], List.getElem_mem hk, by rw [h1]; simp⟩
set_option maxHeartbeats 4000000 in
theorem right_c (A B : Option Addr) (cA cB : Nat) (d o : List Nat) (W : World) (hd : Fl W A d) (ho : Fl W B o) (wd : ∀ x ∈ d, W64 x) (wo : ∀ x ∈ o, W64 x) :
    Calls Tryd.prog 13 #[.agg #[.slice A d.length cA, .slice B o.length cB]] W fun e w' => e = .returned (.bool (rightB d o)) ∧ Below W.heap.size W w' := by
  have hdl := hd.2.1
  have hol := ho.2.1
  by_cases h1 : 1 ≤ d.length ∧ d.length ≤ 64 ∧ o.length + 1 = d.length
  · have HD := Lib.hid hd
    have HO := Lib.hid ho
    have WD := Lib.hid wd
    have WO := Lib.hid wo
    have RB : Hid (rightB d o = (d.all okF && o.all okF)) := Lib.hid (by unfold rightB; rw [decide_eq_true h1]; rfl)
    obtain ⟨a1, a2, a3⟩ := h1
    have k1 : decide (d.length < 1) = false := decide_eq_false (by omega)
    have k2 : decide (64 < d.length) = false := decide_eq_false (by omega)
    have k3 : ((o.length : Int) != (d.length : Int) - 1) = false := by simp; omega
    have k4 : decide ((d.length : Int) < 1) = false := decide_eq_false (by omega)
    have k5 : decide ((64 : Int) < (d.length : Int)) = false := decide_eq_false (by omega)
    have i0 : ∀ w : World, (Instr.index 53 (.agg #[.slice A d.length cA, .slice B o.length cB]) (.int .i64 0)).run Tryd.prog w = .ok (.slice A d.length cA) w := fun _ => by kernel_rfl
    have i1 : ∀ w : World, (Instr.index 53 (.agg #[.slice A d.length cA, .slice B o.length cB]) (.int .i64 1)).run Tryd.prog w = .ok (.slice B o.length cB) w := fun _ => by kernel_rfl
    clear hd ho wd wo
    go_enter Tryd.func13, Tryd.ntmps13
    go_wp2
    go_loop [32] (fun v => ∃ k : Nat, v = .int .i64 k ∧ k ≤ 2 ∧ (1 ≤ k → d.all okF = true) ∧ (2 ≤ k → o.all okF = true)) (fun v => 2 - (intOf v).toNat)
    case atStart => exact ⟨0, rfl, by omega, fun h => absurd h (by omega), fun h => absurd h (by omega)⟩
    case round =>
      obtain ⟨k, rfl, hk, p1, p2⟩ := hrel
      have P1 := Lib.hid p1
      have P2 := Lib.hid p2
      clear p1 p2
      have hk3 : k = 0 ∨ k = 1 ∨ k = 2 := by omega
      rcases hk3 with rfl | rfl | rfl
      · go_wp2
        go_loop [37] (fun v => ∃ j : Nat, v = .int .i64 j ∧ j ≤ d.length ∧ Hid ((d.take j).all okF = true)) (fun v => d.length - (intOf v).toNat)
        case atStart => exact ⟨0, rfl, Nat.zero_le _, rfl⟩
        case round =>
          obtain ⟨j, rfl, hj, ha⟩ := hrel
          by_cases hlt : j < d.length
          · obtain ⟨ad, hA, hc⟩ := HD.out.at hlt
            subst hA
            have hcell : (W.alloc (.cells #[.slice (some ad) d.length cA, .slice B o.length cB] 24)).cell? (ad.add j) = some (.float .f64 d[j]) := (((Below.refl W.heap.size W).alloc (Nat.le_refl _) _).cell (World.block_lt_of_cell? W _ hc)).trans hc
            have l1 : decide (j < d.length) = true := decide_eq_true hlt
            have hx := WD.out _ (List.getElem_mem hlt)
            have le := abs_le d[j]
            have AL := Lib.hid (allT (p := okF) hlt ha.out)
            have AN := Lib.hid (allN (p := okF) hlt)
            have HX := Lib.hid hx
            clear hc hx ha
            cases hok : okF d[j]
            · rw [hok] at le
              have HOK := Lib.hid hok
              clear hok
              go_wp2_with (go_at_call 34; (with_reducible refine (abs_c _ HX.out _).mono ?_); rintro e w' ⟨rfl, hw⟩; obtain rfl := hw.symm; clear hw)
              go_ret
              exact ⟨ret_bool (by rw [RB.out, AN.out HOK.out]; simp), (Below.refl _ _).alloc (Nat.le_refl _) _⟩
            · rw [hok] at le
              have HOK := Lib.hid hok
              clear hok
              go_wp2_with (go_at_call 34; (with_reducible refine (abs_c _ HX.out _).mono ?_); rintro e w' ⟨rfl, hw⟩; obtain rfl := hw.symm; clear hw)
              go_round
              case rel => exact ⟨j + 1, by go_num, by omega, AL.out HOK.out⟩
              case measure => simp [intOf]; omega
          · have l1 : decide (j < d.length) = false := decide_eq_false hlt
            have e1 : d.all okF = true := by have := ha.out; rw [List.take_of_length_le (by omega)] at this; exact this
            have E1 := Lib.hid e1
            clear e1 ha
            go_wp2
            go_round
            case rel => exact ⟨1, by go_num, by omega, fun _ => E1.out, fun h => absurd h (by omega)⟩
            case measure => simp [intOf]
      · go_wp2
        go_loop [37] (fun v => ∃ j : Nat, v = .int .i64 j ∧ j ≤ o.length ∧ Hid ((o.take j).all okF = true)) (fun v => o.length - (intOf v).toNat)
        case atStart => exact ⟨0, rfl, Nat.zero_le _, rfl⟩
        case round =>
          obtain ⟨j, rfl, hj, ha⟩ := hrel
          by_cases hlt : j < o.length
          · obtain ⟨ad, hA, hc⟩ := HO.out.at hlt
            subst hA
            have hcell : (W.alloc (.cells #[.slice A d.length cA, .slice (some ad) o.length cB] 24)).cell? (ad.add j) = some (.float .f64 o[j]) := (((Below.refl W.heap.size W).alloc (Nat.le_refl _) _).cell (World.block_lt_of_cell? W _ hc)).trans hc
            have l1 : decide (j < o.length) = true := decide_eq_true hlt
            have hx := WO.out _ (List.getElem_mem hlt)
            have le := abs_le o[j]
            have AL := Lib.hid (allT (p := okF) hlt ha.out)
            have AN := Lib.hid (allN (p := okF) hlt)
            have HX := Lib.hid hx
            clear hc hx ha
            cases hok : okF o[j]
            · rw [hok] at le
              have HOK := Lib.hid hok
              clear hok
              go_wp2_with (go_at_call 34; (with_reducible refine (abs_c _ HX.out _).mono ?_); rintro e w' ⟨rfl, hw⟩; obtain rfl := hw.symm; clear hw)
              go_ret
              exact ⟨ret_bool (by rw [RB.out, AN.out HOK.out]; simp), (Below.refl _ _).alloc (Nat.le_refl _) _⟩
            · rw [hok] at le
              have HOK := Lib.hid hok
              clear hok
              go_wp2_with (go_at_call 34; (with_reducible refine (abs_c _ HX.out _).mono ?_); rintro e w' ⟨rfl, hw⟩; obtain rfl := hw.symm; clear hw)
              go_round
              case rel => exact ⟨j + 1, by go_num, by omega, AL.out HOK.out⟩
              case measure => simp [intOf]; omega
          · have l1 : decide (j < o.length) = false := decide_eq_false hlt
            have e1 : o.all okF = true := by have := ha.out; rw [List.take_of_length_le (by omega)] at this; exact this
            have E1 := Lib.hid e1
            clear e1 ha
            go_wp2
            go_round
            case rel => exact ⟨2, by go_num, by omega, fun _ => P1.out (by omega), fun _ => E1.out⟩
            case measure => simp [intOf]
      · go_wp2
        go_ret
        exact ⟨ret_bool (by rw [RB.out, P1.out (by omega), P2.out (by omega)]; rfl), (Below.refl _ _).alloc (Nat.le_refl _) _⟩
  · have RB : Hid (false = rightB d o) := Lib.hid (by unfold rightB; rw [decide_eq_false h1]; rfl)
    clear hd ho wd wo
    by_cases h2 : d.length < 1
    · have k1 : decide (d.length < 1) = true := decide_eq_true h2
      have k4 : decide ((d.length : Int) < 1) = true := decide_eq_true (by omega)
      clear h1
      go_enter Tryd.func13, Tryd.ntmps13
      go_wp2
      go_ret
      exact ⟨ret_bool RB.out, (Below.refl _ _).alloc (Nat.le_refl _) _⟩
    · have k1 : decide (d.length < 1) = false := decide_eq_false h2
      have k4 : decide ((d.length : Int) < 1) = false := decide_eq_false (by omega)
      by_cases h3 : 64 < d.length
      · have k2 : decide (64 < d.length) = true := decide_eq_true h3
        have k5 : decide ((64 : Int) < (d.length : Int)) = true := decide_eq_true (by omega)
        clear h1
        go_enter Tryd.func13, Tryd.ntmps13
        go_wp2
        go_ret
        exact ⟨ret_bool RB.out, (Below.refl _ _).alloc (Nat.le_refl _) _⟩
      · have k2 : decide (64 < d.length) = false := decide_eq_false h3
        have k5 : decide ((64 : Int) < (d.length : Int)) = false := decide_eq_false (by omega)
        have k3 : ((o.length : Int) != (d.length : Int) - 1) = true := by simp; omega
        clear h1
        go_enter Tryd.func13, Tryd.ntmps13
        go_wp2
        go_ret
        exact ⟨ret_bool RB.out, (Below.refl _ _).alloc (Nat.le_refl _) _⟩
theorem nan_ne {x : Nat} (h1 : FloatKind.f64.format.infRung < x % FloatKind.f64.format.signWeight) (h2 : x < 2 ^ FloatKind.f64.format.width) : (FloatKind.f64.format.order x 0 != some .eq) = true := by
  have hw : W64 x := h2
  have hn : isn x = true := by unfold isn nan; exact decide_eq_true h1
  rw [t_ne hw (w_const (by decide)), hn]; rfl
def wrongE (d o : List Nat) (x : Nat) : Int := if rightB d o = true then (if 9218868437227405312 ≤ rg x then 5 else if 6867989431740006400 < rg x then 2 else 0) else 4
theorem abs_gt (x : Nat) (hf : rg x < 9218868437227405312) : (FloatKind.f64.format.order (fabs x) 6867989431740006400 == some .gt) = decide (6867989431740006400 < rg x) := by
  rw [t_gt (fabs_w x) (w_const (by decide)), fabs_isn, fabs_plc]
  have e1 : isn 6867989431740006400 = false := by decide
  have e2 : plc 6867989431740006400 = 6867989431740006400 := by decide
  rw [e1, e2, isn_eq, Bool.eq_iff_iff]
  simp
  omega
set_option maxHeartbeats 4000000 in
theorem wrong_c (A B : Option Addr) (cA cB : Nat) (d o : List Nat) (x : Nat) (W : World) (hd : Fl W A d) (ho : Fl W B o) (wd : ∀ x ∈ d, W64 x) (wo : ∀ x ∈ o, W64 x) (hx : W64 x) :
    Calls Tryd.prog 35 #[.agg #[.slice A d.length cA, .slice B o.length cB], .float .f64 x] W fun e w' => e = .returned (.int .i64 (wrongE d o x)) ∧ Below W.heap.size W w' := by
  have rc : ∀ w, Below W.heap.size W w → Calls Tryd.prog 13 #[.agg #[.slice A d.length cA, .slice B o.length cB]] w fun e w' => e = .returned (.bool (rightB d o)) ∧ Below w.heap.size w w' := fun w h => right_c A B cA cB d o w (hd.below h) (ho.below h) wd wo
  have BA := Lib.hid ((Below.refl W.heap.size W).alloc (Nat.le_refl _) (.cells #[.slice A d.length cA, .slice B o.length cB] 24))
  cases hr : rightB d o
  · have we : wrongE d o x = 4 := by unfold wrongE; rw [hr]; rfl
    rw [hr] at rc
    have RC := Lib.hid rc
    have WE := Lib.hid we
    clear rc hr we hd ho wd wo hx
    go_enter Tryd.func35, Tryd.ntmps35
    go_wp2_with (go_at_call 13; (with_reducible refine (RC.out _ BA.out).mono ?_); rintro e w1 ⟨rfl, hb⟩; have HB := Lib.hid hb; clear hb)
    go_ret
    exact ⟨ret_int WE.out.symm, BA.out.trans (HB.out.mono (by simp))⟩
  · have we : wrongE d o x = if 9218868437227405312 ≤ rg x then 5 else if 6867989431740006400 < rg x then 2 else 0 := by unfold wrongE; rw [hr]; rfl
    rw [hr] at rc
    have RC := Lib.hid rc
    clear rc hr hd ho wd wo
    rcases Nat.lt_or_ge (rg x) 9218868437227405312 with hf | hf
    · have s0 : ∀ (t : TypeId) w, (binOp .sub t (.float .f64 x) (.float .f64 x)).run Tryd.prog w = .ok (.float .f64 0) w := fun t w => run_float_arith w .sub t .f64 x x 0 (sub_self_fin hx hf)
      have t0 : (FloatKind.f64.format.order 0 0 != some .eq) = false := by decide
      have t1 := abs_gt x hf
      rw [if_neg (by omega)] at we
      have WE := Lib.hid we
      have HX := Lib.hid hx
      clear we hx hf
      by_cases hg : 6867989431740006400 < rg x
      · rw [decide_eq_true hg] at t1
        have HG := Lib.hid hg
        clear hg
        go_enter Tryd.func35, Tryd.ntmps35
        go_wp2_with (first
          | (go_at_call 13; (with_reducible refine (RC.out _ BA.out).mono ?_); rintro e w1 ⟨rfl, hb⟩; have HB := Lib.hid hb; clear hb)
          | (go_at_call 34; (with_reducible refine (abs_c _ HX.out _).mono ?_); rintro e w' ⟨rfl, hw⟩; obtain rfl := hw.symm; clear hw))
        go_ret
        exact ⟨ret_int (by rw [WE.out, if_pos HG.out]), BA.out.trans (HB.out.mono (by simp))⟩
      · rw [decide_eq_false hg] at t1
        have HG := Lib.hid hg
        clear hg
        go_enter Tryd.func35, Tryd.ntmps35
        go_wp2_with (first
          | (go_at_call 13; (with_reducible refine (RC.out _ BA.out).mono ?_); rintro e w1 ⟨rfl, hb⟩; have HB := Lib.hid hb; clear hb)
          | (go_at_call 34; (with_reducible refine (abs_c _ HX.out _).mono ?_); rintro e w' ⟨rfl, hw⟩; obtain rfl := hw.symm; clear hw))
        go_ret
        exact ⟨ret_int (by rw [WE.out, if_neg HG.out]), BA.out.trans (HB.out.mono (by simp))⟩
    · have s0 : floatBits .sub .f64 x x = none := sub_self_no hx hf
      rw [if_pos hf] at we
      have WE := Lib.hid we
      have S0 := Lib.hid s0
      clear we hx hf s0
      go_enter Tryd.func35, Tryd.ntmps35
      go_wp2_with (first
        | (go_at_call 13; (with_reducible refine (RC.out _ BA.out).mono ?_); rintro e w1 ⟨rfl, hb⟩; have HB := Lib.hid hb; clear hb)
        | (refine wp_arith .f64 x x rfl rfl rfl ?_; intro r n hr; rw [S0.out] at hr; have t0 := nan_ne hr.1 hr.2; clear hr))
      go_ret
      exact ⟨ret_int WE.out.symm, bl_drewN (BA.out.trans (HB.out.mono (by simp))) _⟩
theorem rightB_d {d o : List Nat} (h : rightB d o = true) : 1 ≤ d.length ∧ d.length ≤ 64 ∧ o.length + 1 = d.length ∧ (∀ x ∈ d, rg x ≤ 6858982232485265408) ∧ (∀ x ∈ o, rg x ≤ 6858982232485265408) := by
  unfold rightB okF at h
  simp only [Bool.and_eq_true, decide_eq_true_eq, List.all_eq_true] at h
  exact ⟨h.1.1, h.1.2.1, h.1.2.2, h.2.1, h.2.2⟩
theorem bd_x {x : Nat} (h : rg x ≤ 6867989431740006400) : Bd 1577 (val x) := by
  have h1 := mg_mono (B := B52) B52_pos h
  have h2 : mg B52 6867989431740006400 = p2 1576 := by
    have : (6867989431740006400 : Nat) = 1525 * B52 + 0 := by decide
    rw [this, mg_B 1525 0 (by decide) (by decide)]
    have e : B52 + 0 = p2 52 := by rw [p2_def]
    rw [e, ← p2_add]
  rw [h2] at h1
  have e : (GFl.val x).natAbs = mg B52 (rg x) := by rw [val_eq']; show (if _ then -((mg B52 (rg x) : Nat) : Int) else ((mg B52 (rg x) : Nat) : Int)).natAbs = _; generalize mg B52 (rg x) = m; split <;> omega
  exact bd_of e h1 rfl
def exactN (d o : List Nat) (x : Nat) : Int := if wrongE d o x = 0 then St.cnt (val x) (d.map val) (o.map val) else 0
set_option maxHeartbeats 4000000 in
theorem exact_c (A B : Option Addr) (cA cB : Nat) (d o : List Nat) (x : Nat) (W : World) (hd : Fl W A d) (ho : Fl W B o) (hA : d.length ≤ cA) (hB : o.length ≤ cB) (wd : ∀ x ∈ d, W64 x) (wo : ∀ x ∈ o, W64 x) (hx : W64 x) (hT : Tab W) :
    Calls Tryd.prog 15 #[.agg #[.slice A d.length cA, .slice B o.length cB], .float .f64 x] W fun e w' => e = .returned (.tuple #[.int .i64 (exactN d o x), .int .i64 (wrongE d o x)]) ∧ Below W.heap.size W w' := by
  have wc : ∀ w, Below W.heap.size W w → Calls Tryd.prog 35 #[.agg #[.slice A d.length cA, .slice B o.length cB], .float .f64 x] w fun e w' => e = .returned (.int .i64 (wrongE d o x)) ∧ Below w.heap.size w w' := fun w h => wrong_c A B cA cB d o x w (hd.below h) (ho.below h) wd wo hx
  have BA := Lib.hid ((Below.refl W.heap.size W).alloc (Nat.le_refl _) (.cells #[.slice A d.length cA, .slice B o.length cB] 24))
  have bc : wrongE d o x = 0 → ∀ w, Below W.heap.size W w → Calls Tryd.prog 36 #[.agg #[.slice A d.length cA, .slice B o.length cB], .float .f64 x] w fun e w' => e = .returned (.int .i64 (exactN d o x)) ∧ Below w.heap.size w w' := fun h w hb => by
    unfold exactN
    rw [if_pos h]
    unfold wrongE at h
    by_cases hr : rightB d o = true
    · rw [if_pos hr] at h
      obtain ⟨r1, r2, r3, r4, r5⟩ := rightB_d hr
      have hx1 : rg x ≤ 6867989431740006400 := by
        rcases Nat.lt_or_ge 6867989431740006400 (rg x) with h1 | h1
        · rw [if_pos h1] at h; split at h <;> cases h
        · exact h1
      exact below_c A B cA cB d o x w (hd.below hb) (ho.below hb) hA hB (fun y hy => ⟨wd y hy, r4 y hy⟩) (fun y hy => ⟨wo y hy, r5 y hy⟩) (by omega) r2 hx (by omega) (bd_x hx1) (hT.below hb)
    · rw [if_neg hr] at h; cases h
  by_cases hw : wrongE d o x = 0
  · have BC := Lib.hid (bc hw)
    rw [hw] at wc
    have WC := Lib.hid wc
    have HW := Lib.hid hw
    clear wc bc hw hd ho hA hB wd wo hx hT
    go_enter Tryd.func15, Tryd.ntmps15
    go_wp2_with (first
      | (go_at_call 35; (with_reducible refine (WC.out _ BA.out).mono ?_); rintro e w1 ⟨rfl, hb⟩
         have hblk : w1.heap[W.heap.size]? = _ := kb_new hb
         have cc0 := kb_cell hblk (i := 0) rfl
         have cc1 := kb_cell hblk (i := 1) rfl
         have HB := Lib.hid (BA.out.trans (hb.mono (by simp))); clear hb hblk)
      | (go_at_call 36; (with_reducible refine (BC.out _ HB.out).mono ?_); rintro e w2 ⟨rfl, hb⟩; have HB2 := Lib.hid (bl_then HB.out hb); clear hb))
    go_ret2
    exact ⟨ret_int_int rfl HW.out.symm, HB2.out⟩
  · have e0 : exactN d o x = 0 := if_neg hw
    have k0 : (wrongE d o x != 0) = true := by simpa using hw
    obtain ⟨E, hE⟩ : ∃ E, wrongE d o x = E := ⟨_, rfl⟩
    rw [hE] at wc k0
    rw [hE]
    have WC := Lib.hid wc
    have E0 := Lib.hid e0
    clear wc bc hw hd ho hA hB wd wo hx hT e0 hE
    go_enter Tryd.func15, Tryd.ntmps15
    go_wp2_with (first
      | (go_at_call 35; (with_reducible refine (WC.out _ BA.out).mono ?_); rintro e w1 ⟨rfl, hb⟩; have HB := Lib.hid (BA.out.trans (hb.mono (by simp))); clear hb))
    go_ret2
    exact ⟨ret_int_int E0.out.symm rfl, HB.out⟩
end Go.Proofs.YtfjiojdnbdfenaaDoor


/- sturm.halve. -/
namespace Go.Proofs.YtfjiojdnbdfenaaDoor
open Go Go.RowKit Nv GFl
set_option maxRecDepth 100000
set_option linter.unusedSimpArgs false

theorem ret_float_float {k q : FloatKind} {a b c d : Nat} (h : a = b) (h' : c = d) : Ending.returned (.tuple #[.float k a, .float q c]) = .returned (.tuple #[.float k b, .float q d]) := by rw [h, h']
/-- Halving between places: T tells of a place whether something has turned there. -/
def hlv (T : Int → Bool) : Nat → Int → Int → Int × Int
  | 0, a, b => (a, b)
  | n + 1, a, b => if 1 < b - a then (if T (a + (b - a) / 2) then hlv T n a (a + (b - a) / 2) else hlv T n (a + (b - a) / 2) b) else (a, b)
theorem hlv_stop (T : Int → Bool) (n : Nat) {a b : Int} (h : ¬ 1 < b - a) : hlv T n a b = (a, b) := by cases n <;> simp [hlv, h]
/-- Enough rounds. -/
theorem hlv_more (T : Int → Bool) : ∀ (n : Nat) (a b : Int), b - a ≤ 2 ^ n → ∀ m, hlv T (n + m) a b = hlv T n a b := by
  intro n
  induction n with
  | zero => intro a b h m; rw [hlv_stop T _ (by simp at h; omega), hlv_stop T _ (by simp at h; omega)]
  | succ n ih =>
    intro a b h m
    rw [show n + 1 + m = (n + m) + 1 by omega]
    unfold hlv
    rw [Int.pow_succ] at h
    generalize (2 : Int) ^ n = p at *
    split
    · split
      · exact ih _ _ (by omega) m
      · exact ih _ _ (by omega) m
    · rfl
set_option maxHeartbeats 4000000 in
theorem halveF_c (c1 c2 : Value) (T : Int → Bool) (a b : Int) (W : World) (ha : -6867989431740006400 ≤ a) (hab : a < b) (hb : b ≤ 6867989431740006400) (hd : b - a ≤ 6867989431740006400)
    (hT : ∀ p : Int, a < p → p < b → ∀ w, Below W.heap.size W w → Calls Tryd.prog 52 #[.float .f64 (atW p), c1, c2] w fun e w' => e = .returned (.bool (T p)) ∧ Below w.heap.size w w') :
    Calls Tryd.prog 46 #[.int .i64 a, .int .i64 b, .func (.func 52) #[] #[c1, c2]] W fun e w' => e = .returned (.tuple #[.float .f64 (atW (hlv T 64 a b).1), .float .f64 (atW (hlv T 64 a b).2)]) ∧ Below W.heap.size W w' := by
  have HT := Lib.hid hT
  clear hT
  go_enter Tryd.func46, Tryd.ntmps46
  go_wp2
  go_loopw [0, 1] (fun v0 v1 wr => ∃ (p q : Int), v0 = .int .i64 p ∧ v1 = .int .i64 q ∧ a ≤ p ∧ p < q ∧ q ≤ b ∧ Hid (Below W.heap.size W wr ∧ ∃ n, q - p ≤ 2 ^ n ∧ n ≤ 64 ∧ hlv T n p q = hlv T 64 a b)) (fun v0 v1 _ => (intOf v1 - intOf v0).toNat)
  case atStart => exact ⟨a, b, rfl, rfl, by omega, by omega, by omega, Lib.hid ⟨Below.refl _ _, 64, by omega, by omega, rfl⟩⟩
  case round =>
    obtain ⟨p, q, rfl, rfl, h1, h2, h3, hq⟩ := hrel
    have w1 : wrap64 (q - p) = q - p := by unfold wrap64; omega
    by_cases hlt : 1 < q - p
    · obtain ⟨H, hH⟩ : ∃ H : Int, (q - p) / 2 = H := ⟨_, rfl⟩
      obtain ⟨M, hM⟩ : ∃ M : Int, p + H = M := ⟨_, rfl⟩
      have b1 : p < M := by omega
      have b2 : M < q := by omega
      have w2 : (q - p).tdiv 2 = H := by rw [Int.tdiv_eq_ediv_of_nonneg (by omega)]; exact hH
      have w3 : wrap64 H = H := by unfold wrap64; omega
      have w4 : wrap64 (p + H) = M := by unfold wrap64; omega
      have l1 : decide (1 < q - p) = true := decide_eq_true hlt
      have ea : atF M = atW M := by unfold atF; rw [if_pos (by rw [atOk_eq]; simp; omega)]
      have tc := HT.out M (by omega) (by omega) wr hq.out.1
      have ac := at_c M (by omega) (by omega)
      rw [ea] at ac
      have hm : ∃ n, hlv T 64 a b = (if T M then hlv T n p M else hlv T n M q) ∧ q - p ≤ 2 ^ (n + 1) ∧ n + 1 ≤ 64 := by
        obtain ⟨n, e1, e2, e3⟩ := hq.out.2
        cases n with
        | zero => simp at e1; omega
        | succ n =>
          refine ⟨n, ?_, e1, e2⟩
          rw [← e3]
          show (if 1 < q - p then _ else _) = _
          rw [if_pos hlt, hH, hM]
      have HM := Lib.hid hm
      have HMV := Lib.hid hM
      have HHV := Lib.hid hH
      have TC := Lib.hid tc
      have AC := Lib.hid ac
      have B1 := Lib.hid (And.intro b1 b2)
      have BL := Lib.hid hq.out.1
      clear hm hM hH tc ac b1 b2 ea hq hlt
      cases ht : T M
      all_goals
        have tc := TC.out
        have hm := HM.out
        rw [ht] at tc hm
        have TC2 := Lib.hid tc
        have HM2 := Lib.hid hm
        clear tc hm TC HM ht
        go_wp2_with (first
          | (go_at_call 59; (with_reducible refine (AC.out _).mono ?_); rintro e w' ⟨rfl, hw⟩; obtain rfl := hw.symm; clear hw)
          | (go_at_call 52; (with_reducible refine (TC2.out).mono ?_); rintro e w2 ⟨rfl, hb⟩; have HB2 := Lib.hid hb; clear hb))
        go_roundw
        case rel =>
          obtain ⟨n, e1, e2, e3⟩ := HM2.out
          have := B1.out; have := HHV.out; have := HMV.out
          rw [Int.pow_succ] at e2
          first
            | (rw [if_neg (by simp)] at e1
               exact ⟨M, q, rfl, rfl, by omega, by omega, by omega, Lib.hid ⟨bl_then BL.out HB2.out, n, by generalize (2 : Int) ^ n = z at *; omega, by omega, e1.symm⟩⟩)
            | (rw [if_pos trivial] at e1
               exact ⟨p, M, rfl, rfl, by omega, by omega, by omega, Lib.hid ⟨bl_then BL.out HB2.out, n, by generalize (2 : Int) ^ n = z at *; omega, by omega, e1.symm⟩⟩)
        case measure => have := B1.out; simp [intOf]; omega
    · have l1 : decide (1 < q - p) = false := decide_eq_false hlt
      have ea : atF p = atW p := by unfold atF; rw [if_pos (by rw [atOk_eq]; simp; omega)]
      have eb : atF q = atW q := by unfold atF; rw [if_pos (by rw [atOk_eq]; simp; omega)]
      have fin : hlv T 64 a b = (p, q) := by
        obtain ⟨n, e1, e2, e3⟩ := hq.out.2
        rw [← e3, hlv_stop T n hlt]
      have FIN := Lib.hid fin
      have EA := Lib.hid ea
      have EB := Lib.hid eb
      have BL := Lib.hid hq.out.1
      have ac := at_c p (by omega) (by omega)
      have ac2 := at_c q (by omega) (by omega)
      have AC := Lib.hid ac
      have AC2 := Lib.hid ac2
      clear fin ea eb hq hlt ac ac2
      go_wp2_with (first
        | (go_at_call 59; (first | (with_reducible refine (AC.out _).mono ?_) | (with_reducible refine (AC2.out _).mono ?_)); rintro e w' ⟨rfl, hw⟩; obtain rfl := hw.symm; clear hw))
      go_ret2
      exact ⟨ret_float_float (by rw [EA.out, FIN.out]) (by rw [EB.out, FIN.out]), BL.out⟩
set_option maxHeartbeats 4000000 in
theorem halveL_c (c1 c2 : Value) (T : Int → Bool) (a b : Int) (W : World) (ha : -6867989431740006400 ≤ a) (hab : a < b) (hb : b ≤ 6867989431740006400) (hd : b - a ≤ 6867989431740006400)
    (hT : ∀ p : Int, a < p → p < b → ∀ w, Below W.heap.size W w → Calls Tryd.prog 45 #[.float .f64 (atW p), c1, c2] w fun e w' => e = .returned (.bool (T p)) ∧ Below w.heap.size w w') :
    Calls Tryd.prog 46 #[.int .i64 a, .int .i64 b, .func (.func 45) #[] #[c1, c2]] W fun e w' => e = .returned (.tuple #[.float .f64 (atW (hlv T 64 a b).1), .float .f64 (atW (hlv T 64 a b).2)]) ∧ Below W.heap.size W w' := by
  have HT := Lib.hid hT
  clear hT
  go_enter Tryd.func46, Tryd.ntmps46
  go_wp2
  go_loopw [0, 1] (fun v0 v1 wr => ∃ (p q : Int), v0 = .int .i64 p ∧ v1 = .int .i64 q ∧ a ≤ p ∧ p < q ∧ q ≤ b ∧ Hid (Below W.heap.size W wr ∧ ∃ n, q - p ≤ 2 ^ n ∧ n ≤ 64 ∧ hlv T n p q = hlv T 64 a b)) (fun v0 v1 _ => (intOf v1 - intOf v0).toNat)
  case atStart => exact ⟨a, b, rfl, rfl, by omega, by omega, by omega, Lib.hid ⟨Below.refl _ _, 64, by omega, by omega, rfl⟩⟩
  case round =>
    obtain ⟨p, q, rfl, rfl, h1, h2, h3, hq⟩ := hrel
    have w1 : wrap64 (q - p) = q - p := by unfold wrap64; omega
    by_cases hlt : 1 < q - p
    · obtain ⟨H, hH⟩ : ∃ H : Int, (q - p) / 2 = H := ⟨_, rfl⟩
      obtain ⟨M, hM⟩ : ∃ M : Int, p + H = M := ⟨_, rfl⟩
      have b1 : p < M := by omega
      have b2 : M < q := by omega
      have w2 : (q - p).tdiv 2 = H := by rw [Int.tdiv_eq_ediv_of_nonneg (by omega)]; exact hH
      have w3 : wrap64 H = H := by unfold wrap64; omega
      have w4 : wrap64 (p + H) = M := by unfold wrap64; omega
      have l1 : decide (1 < q - p) = true := decide_eq_true hlt
      have ea : atF M = atW M := by unfold atF; rw [if_pos (by rw [atOk_eq]; simp; omega)]
      have tc := HT.out M (by omega) (by omega) wr hq.out.1
      have ac := at_c M (by omega) (by omega)
      rw [ea] at ac
      have hm : ∃ n, hlv T 64 a b = (if T M then hlv T n p M else hlv T n M q) ∧ q - p ≤ 2 ^ (n + 1) ∧ n + 1 ≤ 64 := by
        obtain ⟨n, e1, e2, e3⟩ := hq.out.2
        cases n with
        | zero => simp at e1; omega
        | succ n =>
          refine ⟨n, ?_, e1, e2⟩
          rw [← e3]
          show (if 1 < q - p then _ else _) = _
          rw [if_pos hlt, hH, hM]
      have HM := Lib.hid hm
      have HMV := Lib.hid hM
      have HHV := Lib.hid hH
      have TC := Lib.hid tc
      have AC := Lib.hid ac
      have B1 := Lib.hid (And.intro b1 b2)
      have BL := Lib.hid hq.out.1
      clear hm hM hH tc ac b1 b2 ea hq hlt
      cases ht : T M
      all_goals
        have tc := TC.out
        have hm := HM.out
        rw [ht] at tc hm
        have TC2 := Lib.hid tc
        have HM2 := Lib.hid hm
        clear tc hm TC HM ht
        go_wp2_with (first
          | (go_at_call 59; (with_reducible refine (AC.out _).mono ?_); rintro e w' ⟨rfl, hw⟩; obtain rfl := hw.symm; clear hw)
          | (go_at_call 45; (with_reducible refine (TC2.out).mono ?_); rintro e w2 ⟨rfl, hb⟩; have HB2 := Lib.hid hb; clear hb))
        go_roundw
        case rel =>
          obtain ⟨n, e1, e2, e3⟩ := HM2.out
          have := B1.out; have := HHV.out; have := HMV.out
          rw [Int.pow_succ] at e2
          first
            | (rw [if_neg (by simp)] at e1
               exact ⟨M, q, rfl, rfl, by omega, by omega, by omega, Lib.hid ⟨bl_then BL.out HB2.out, n, by generalize (2 : Int) ^ n = z at *; omega, by omega, e1.symm⟩⟩)
            | (rw [if_pos trivial] at e1
               exact ⟨p, M, rfl, rfl, by omega, by omega, by omega, Lib.hid ⟨bl_then BL.out HB2.out, n, by generalize (2 : Int) ^ n = z at *; omega, by omega, e1.symm⟩⟩)
        case measure => have := B1.out; simp [intOf]; omega
    · have l1 : decide (1 < q - p) = false := decide_eq_false hlt
      have ea : atF p = atW p := by unfold atF; rw [if_pos (by rw [atOk_eq]; simp; omega)]
      have eb : atF q = atW q := by unfold atF; rw [if_pos (by rw [atOk_eq]; simp; omega)]
      have fin : hlv T 64 a b = (p, q) := by
        obtain ⟨n, e1, e2, e3⟩ := hq.out.2
        rw [← e3, hlv_stop T n hlt]
      have FIN := Lib.hid fin
      have EA := Lib.hid ea
      have EB := Lib.hid eb
      have BL := Lib.hid hq.out.1
      have ac := at_c p (by omega) (by omega)
      have ac2 := at_c q (by omega) (by omega)
      have AC := Lib.hid ac
      have AC2 := Lib.hid ac2
      clear fin ea eb hq hlt ac ac2
      go_wp2_with (first
        | (go_at_call 59; (first | (with_reducible refine (AC.out _).mono ?_) | (with_reducible refine (AC2.out _).mono ?_)); rintro e w' ⟨rfl, hw⟩; obtain rfl := hw.symm; clear hw))
      go_ret2
      exact ⟨ret_float_float (by rw [EA.out, FIN.out]) (by rw [EB.out, FIN.out]), BL.out⟩
end Go.Proofs.YtfjiojdnbdfenaaDoor


/- sturm.Find. -/
namespace Go.Proofs.YtfjiojdnbdfenaaDoor
open Go Go.RowKit Nv GFl
set_option maxRecDepth 100000
set_option linter.unusedSimpArgs false

theorem atW_r {p : Int} (h1 : -6867989431740006400 ≤ p) (h2 : p ≤ 6867989431740006400) : rg (atW p) = p.natAbs ∧ W64 (atW p) ∧ Bd 1577 (val (atW p)) := by
  have e : rg (atW p) = p.natAbs := by unfold atW; exact wd_rg (by omega)
  exact ⟨e, by unfold atW; exact wd_w (by omega), bd_x (by omega)⟩
/-- More than k are below the place. -/
def over (d o : List Nat) (k : Int) (p : Int) : Bool := decide (k < St.cnt (val (atW p)) (d.map val) (o.map val))
set_option maxHeartbeats 4000000 in
theorem find1_c (A B : Option Addr) (cA cB : Nat) (d o : List Nat) (k : Int) (p : Int) (bc bk : Nat) (W : World) (hd : Fl W A d) (ho : Fl W B o) (hA : d.length ≤ cA) (hB : o.length ≤ cB) (cd : ∀ x ∈ d, Cf x) (co : ∀ x ∈ o, Cf x) (hl : d.length = o.length + 1) (hn : d.length ≤ 64) (h1 : -6867989431740006400 ≤ p) (h2 : p ≤ 6867989431740006400) (hT : Tab W)
    (hc : W.heap[bc]? = some (.cells #[.slice A d.length cA, .slice B o.length cB] 24 (0, 0))) (hk : W.heap[bk]? = some (.cells #[.int .i64 k] 3 (0, 0))) :
    Calls Tryd.prog 52 #[.float .f64 (atW p), .pointer (some ⟨bc, 0, none⟩), .pointer (some ⟨bk, 0, none⟩)] W fun e w' => e = .returned (.bool (over d o k p)) ∧ Below W.heap.size W w' := by
  obtain ⟨e1, e2, e3⟩ := atW_r h1 h2
  have lw : ∀ w', Below W.heap.size W w' → Calls Tryd.prog 36 #[.agg #[.slice A d.length cA, .slice B o.length cB], .float .f64 (atW p)] w' fun e w'' => e = .returned (.int .i64 (St.cnt (val (atW p)) (d.map val) (o.map val))) ∧ Below w'.heap.size w' w'' := fun w' h => below_c A B cA cB d o (atW p) w' (hd.below h) (ho.below h) hA hB cd co hl hn e2 (by omega) e3 (hT.below h)
  have c0 := kb_cell hc (i := 0) rfl
  have c1 := kb_cell hc (i := 1) rfl
  have d0 := kb_cell hk (i := 0) rfl
  have LW := Lib.hid lw
  have HC := Lib.hid hc
  have HK0 := Lib.hid hk
  obtain ⟨N, hN⟩ : ∃ N, St.cnt (val (atW p)) (d.map val) (o.map val) = N := ⟨_, rfl⟩
  have ov : over d o k p = decide (k < N) := by unfold over; rw [hN]
  rw [hN] at LW
  rw [ov]
  clear hd ho hA hB cd co hl hn h1 h2 hT hc hk lw e1 e2 e3 ov hN
  go_enter Tryd.func52, Tryd.ntmps52
  go_wp2
  have hS : W.drew.cell? ⟨bc, 0, none⟩ = some (.slice A d.length cA) ∧ W.drew.cell? ⟨bc, 1, none⟩ = some (.slice B o.length cB) ∧ W.drew.cell? ⟨bk, 0, none⟩ = some (.int .i64 k) := ⟨c0, c1, d0⟩
  refine wp_region_G (g := 4) (S := fun w' => w'.cell? ⟨bc, 0, none⟩ = some (.slice A d.length cA) ∧ w'.cell? ⟨bc, 1, none⟩ = some (.slice B o.length cB) ∧ w'.cell? ⟨bk, 0, none⟩ = some (.int .i64 k)) (by kernel_rfl) ?_
  (refine wpG_ld (i := 0) 2 (v := ?_) rfl rfl (by kernel_rfl) (by kernel_rfl) (by kernel_rfl) (by kernel_rfl) (fun _ _ _ h => h) (Or.inl ⟨by rfl, ?_⟩) hS ?_; rotate_left; focus (intro w hSw; (try dsimp only at hSw); go_simp; first | done | with_reducible rfl | exact rfl)); (try simp only [Act.put, List.setIfInBounds_toArray, List.set_cons_zero, List.set_cons_succ])
  (refine wpG_take (i := 1) (v := ?_) rfl rfl (by kernel_rfl) (by kernel_rfl) (by kernel_rfl) (fun _ _ _ h => h) (Or.inl ⟨by rfl, fun w => ?_⟩) (Or.inr hS) ?_; rotate_left; focus (go_simp; first | done | with_reducible rfl | exact rfl)); (try simp only [Act.put, List.setIfInBounds_toArray, List.set_cons_zero, List.set_cons_succ])
  (refine wpG_ld (i := 3) 4 (v := ?_) rfl rfl (by kernel_rfl) (by kernel_rfl) (by kernel_rfl) (by kernel_rfl) (fun _ _ _ h => h) (Or.inl ⟨by rfl, ?_⟩) hS ?_; rotate_left; focus (intro w hSw; (try dsimp only at hSw); go_simp; first | done | with_reducible rfl | exact rfl)); (try simp only [Act.put, List.setIfInBounds_toArray, List.set_cons_zero, List.set_cons_succ])
  refine wpG_one (i := 2) (by kernel_rfl) rfl (fun K hK => ?_); have HK := Lib.hid hK; clear hK
  go_simp
  (with_reducible refine (LW.out _ (dr_below _)).mono ?_)
  rintro e w1 ⟨rfl, hb⟩
  have HB := Lib.hid ((dr_below W).trans hb)
  refine HK.out _ _ (Or.inr ⟨(hb.cell (p := ⟨bc, 0, none⟩) (kb_lt HC.out)).trans hS.1, (hb.cell (p := ⟨bc, 1, none⟩) (kb_lt HC.out)).trans hS.2.1, (hb.cell (p := ⟨bk, 0, none⟩) (kb_lt HK0.out)).trans hS.2.2⟩) ?_
  clear hb HK K hS
  (try simp only [Act.put, List.setIfInBounds_toArray, List.set_cons_zero, List.set_cons_succ])
  refine wpG_one (i := 4) (by kernel_rfl) rfl (fun K hK => ?_); have HK := Lib.hid hK; clear hK; go_simp; refine HK.out _ _ (Or.inl (by kernel_rfl)) ?_; clear HK K; (try simp only [Act.put, List.setIfInBounds_toArray, List.set_cons_zero, List.set_cons_succ])
  refine wpG_one (i := 5) (by kernel_rfl) rfl (fun K hK => ?_); have HK := Lib.hid hK; clear hK; go_simp; refine HK.out _ _ (Or.inl (by kernel_rfl)) ?_; clear HK K; (try simp only [Act.put, List.setIfInBounds_toArray, List.set_cons_zero, List.set_cons_succ])
  refine wpG_done (by kernel_rfl) ?_ _
  go_wp2
  go_ret
  exact ⟨rfl, HB.out⟩
def findP (d o : List Nat) (k : Int) : Int × Int := if over d o k 0 = true then hlv (over d o k) 64 (-6867989431740006400) 0 else hlv (over d o k) 64 0 6867989431740006400
/-- What Find answers. -/
def findE (d o : List Nat) (k : Int) : Int := if rightB d o = true then (if k < 0 then 2 else if (d.length : Int) ≤ k then 270 else 0) else 4
def findL (d o : List Nat) (k : Int) : Nat := if findE d o k = 0 then atW (findP d o k).1 else 0
def findH (d o : List Nat) (k : Int) : Nat := if findE d o k = 0 then atW (findP d o k).2 else 0
theorem ret_ffi {a b c d : Nat} {m n : Int} (h1 : a = c) (h2 : b = d) (h3 : m = n) : Ending.returned (.tuple #[.float .f64 a, .float .f64 b, .int .i64 m]) = .returned (.tuple #[.float .f64 c, .float .f64 d, .int .i64 n]) := by rw [h1, h2, h3]
set_option maxHeartbeats 8000000 in
theorem find_c (A B : Option Addr) (cA cB : Nat) (d o : List Nat) (k : Int) (W : World) (hd : Fl W A d) (ho : Fl W B o) (hA : d.length ≤ cA) (hB : o.length ≤ cB) (wd : ∀ x ∈ d, W64 x) (wo : ∀ x ∈ o, W64 x) (hT : Tab W) :
    Calls Tryd.prog 31 #[.agg #[.slice A d.length cA, .slice B o.length cB], .int .i64 k] W fun e w' => e = .returned (.tuple #[.float .f64 (findL d o k), .float .f64 (findH d o k), .int .i64 (findE d o k)]) ∧ Below W.heap.size W w' := by
  have rc : ∀ w, Below W.heap.size W w → Calls Tryd.prog 13 #[.agg #[.slice A d.length cA, .slice B o.length cB]] w fun e w' => e = .returned (.bool (rightB d o)) ∧ Below w.heap.size w w' := fun w h => right_c A B cA cB d o w (hd.below h) (ho.below h) wd wo
  have BA := Lib.hid (((Below.refl W.heap.size W).alloc (Nat.le_refl _) (.cells #[.slice A d.length cA, .slice B o.length cB] 24)).alloc (by simp) (.cells #[.int .i64 k] 3))
  have KC : Hid (∀ w1, Below ((W.alloc (.cells #[.slice A d.length cA, .slice B o.length cB] 24)).alloc (.cells #[.int .i64 k] 3)).heap.size ((W.alloc (.cells #[.slice A d.length cA, .slice B o.length cB] 24)).alloc (.cells #[.int .i64 k] 3)) w1 → w1.heap[W.heap.size]? = some (.cells #[.slice A d.length cA, .slice B o.length cB] 24 (0, 0)) ∧ w1.heap[W.heap.size + 1]? = some (.cells #[.int .i64 k] 3 (0, 0))) := Lib.hid (fun w1 h => by
    refine ⟨kb_keep h (kb_alloc (kb_new (Below.refl _ _))), ?_⟩
    have := kb_new (w := W.alloc (.cells #[.slice A d.length cA, .slice B o.length cB] 24)) h
    simpa using this)
  have hl := hd.2.1
  by_cases he : findE d o k = 0
  · have hr : rightB d o = true := by unfold findE at he; by_cases h : rightB d o = true; exact h; rw [if_neg h] at he; cases he
    have hk1 : ¬ k < 0 := by unfold findE at he; rw [if_pos hr] at he; intro h; rw [if_pos h] at he; cases he
    have hk2 : ¬ (d.length : Int) ≤ k := by unfold findE at he; rw [if_pos hr, if_neg hk1] at he; intro h; rw [if_pos h] at he; cases he
    obtain ⟨r1, r2, r3, r4, r5⟩ := rightB_d hr
    have fc : ∀ w, Below W.heap.size W w → ∀ p : Int, -6867989431740006400 ≤ p → p ≤ 6867989431740006400 → ∀ bc bk, w.heap[bc]? = some (.cells #[.slice A d.length cA, .slice B o.length cB] 24 (0, 0)) → w.heap[bk]? = some (.cells #[.int .i64 k] 3 (0, 0)) → Calls Tryd.prog 52 #[.float .f64 (atW p), .pointer (some ⟨bc, 0, none⟩), .pointer (some ⟨bk, 0, none⟩)] w fun e w' => e = .returned (.bool (over d o k p)) ∧ Below w.heap.size w w' := fun w h p h1 h2 bc bk hc hk => find1_c A B cA cB d o k p bc bk w (hd.below h) (ho.below h) hA hB (fun y hy => ⟨wd y hy, r4 y hy⟩) (fun y hy => ⟨wo y hy, r5 y hy⟩) (by omega) r2 h1 h2 (hT.below h) hc hk
    rw [hr] at rc
    have RC := Lib.hid rc
    have FC := Lib.hid fc
    have el : findL d o k = atW (findP d o k).1 := if_pos he
    have eh : findH d o k = atW (findP d o k).2 := if_pos he
    have EL := Lib.hid el
    have EH := Lib.hid eh
    have HE := Lib.hid he
    have k1 : decide (k < 0) = false := decide_eq_false hk1
    have k2 : decide ((d.length : Int) ≤ k) = false := decide_eq_false hk2
    have pf : placeF 6867989431740006400 = 6867989431740006400 := by decide
    have pn : isn 6867989431740006400 = false := by decide
    have pc := place_c 6867989431740006400 (w_const (by decide))
    rw [pf, pn] at pc
    have PC := Lib.hid pc
    have z0 : atW 0 = 0 := by decide
    have Z0 := Lib.hid z0
    clear rc fc el eh he hr hk1 hk2 hd ho hA hB wd wo hT r1 r2 r3 r4 r5 pf pn pc z0
    cases hov : over d o k 0
    all_goals
      have HOV := Lib.hid hov
      clear hov
      go_enter Tryd.func31, Tryd.ntmps31
      go_wp2_with (first
        | (go_at_call 13; (with_reducible refine (RC.out _ BA.out).mono ?_); rintro e w1 ⟨rfl, hb⟩
           obtain ⟨bc, bk⟩ := KC.out w1 hb
           have cc0 := kb_cell bc (i := 0) rfl
           have cc1 := kb_cell bc (i := 1) rfl
           have dd0 := kb_cell bk (i := 0) rfl
           have BC := Lib.hid bc
           have BK := Lib.hid bk
           have HB := Lib.hid (BA.out.trans (hb.mono (by simp; omega))); clear hb bc bk)
        | (go_at_call 32; (with_reducible refine (PC.out _).mono ?_); rintro e w' ⟨rfl, hw⟩; obtain rfl := hw.symm; clear hw)
        | (go_at_call 52; have fz := FC.out _ HB.out 0 (by decide) (by decide) _ _ BC.out BK.out; rw [Z0.out, HOV.out] at fz; (with_reducible refine fz.mono ?_); clear fz; rintro e w2 ⟨rfl, hb⟩
           have BC2 := Lib.hid (kb_keep hb BC.out)
           have BK2 := Lib.hid (kb_keep hb BK.out)
           have HB2 := Lib.hid (bl_then HB.out hb); clear hb)
        | (go_at_call 46; (with_reducible refine (halveF_c _ _ (over d o k) _ _ _ (by decide) (by decide) (by decide) (by decide) ?_).mono ?_)
           · intro p h1 h2 w hb
             exact FC.out w (bl_then HB2.out hb) p (by omega) (by omega) _ _ (kb_keep hb BC2.out) (kb_keep hb BK2.out)
           rintro e w3 ⟨rfl, hb⟩
           have HB3 := Lib.hid (bl_then HB2.out hb); clear hb))
      refine bodyPost_ret (v := .tuple #[.float .f64 (findL d o k), .float .f64 (findH d o k), .int .i64 (findE d o k)]) (by simp [results, Tryd.results31, go_sem, EL.out, EH.out, HE.out, findP, HOV.out]) rfl ⟨rfl, HB3.out⟩
  · have el : findL d o k = 0 := if_neg he
    have eh : findH d o k = 0 := if_neg he
    have EL := Lib.hid el
    have EH := Lib.hid eh
    cases hr : rightB d o
    · have ee : findE d o k = 4 := by unfold findE; rw [if_neg (by rw [hr]; simp)]
      rw [hr] at rc
      have RC := Lib.hid rc
      have EE := Lib.hid ee
      clear rc hr ee el eh hd ho hA hB wd wo hT he KC
      go_enter Tryd.func31, Tryd.ntmps31
      go_wp2_with (first
        | (go_at_call 13; (with_reducible refine (RC.out _ BA.out).mono ?_); rintro e w1 ⟨rfl, hb⟩; have HB := Lib.hid (BA.out.trans (hb.mono (by simp; omega))); clear hb))
      refine bodyPost_ret (v := .tuple #[.float .f64 (findL d o k), .float .f64 (findH d o k), .int .i64 (findE d o k)]) (by simp [results, Tryd.results31, go_sem, EL.out, EH.out, EE.out]) rfl ⟨rfl, HB.out⟩
    · have ee : findE d o k = if k < 0 then 2 else if (d.length : Int) ≤ k then 270 else 0 := by unfold findE; rw [if_pos hr]
      rw [ee] at he
      rw [hr] at rc
      have RC := Lib.hid rc
      by_cases hk1 : k < 0
      · rw [if_pos hk1] at ee
        have EE := Lib.hid ee
        have k1 : decide (k < 0) = true := decide_eq_true hk1
        clear rc hr ee el eh hd ho hA hB wd wo hT he hk1
        go_enter Tryd.func31, Tryd.ntmps31
        go_wp2_with (first
          | (go_at_call 13; (with_reducible refine (RC.out _ BA.out).mono ?_); rintro e w1 ⟨rfl, hb⟩
             obtain ⟨bc, bk⟩ := KC.out w1 hb
             have cc0 := kb_cell bc (i := 0) rfl
             have cc1 := kb_cell bc (i := 1) rfl
             have dd0 := kb_cell bk (i := 0) rfl
             have HB := Lib.hid (BA.out.trans (hb.mono (by simp; omega))); clear hb bc bk))
        refine bodyPost_ret (v := .tuple #[.float .f64 (findL d o k), .float .f64 (findH d o k), .int .i64 (findE d o k)]) (by simp [results, Tryd.results31, go_sem, EL.out, EH.out, EE.out]) rfl ⟨rfl, HB.out⟩
      · rw [if_neg hk1] at ee he
        have hk2 : (d.length : Int) ≤ k := by
          apply Classical.byContradiction
          intro h
          rw [if_neg h] at he; exact absurd rfl he
        rw [if_pos hk2] at ee
        have EE := Lib.hid ee
        have k1 : decide (k < 0) = false := decide_eq_false hk1
        have k2 : decide ((d.length : Int) ≤ k) = true := decide_eq_true hk2
        clear rc hr ee el eh hd ho hA hB wd wo hT he hk1 hk2
        go_enter Tryd.func31, Tryd.ntmps31
        go_wp2_with (first
          | (go_at_call 13; (with_reducible refine (RC.out _ BA.out).mono ?_); rintro e w1 ⟨rfl, hb⟩
             obtain ⟨bc, bk⟩ := KC.out w1 hb
             have cc0 := kb_cell bc (i := 0) rfl
             have cc1 := kb_cell bc (i := 1) rfl
             have dd0 := kb_cell bk (i := 0) rfl
             have HB := Lib.hid (BA.out.trans (hb.mono (by simp; omega))); clear hb bc bk))
        refine bodyPost_ret (v := .tuple #[.float .f64 (findL d o k), .float .f64 (findH d o k), .int .i64 (findE d o k)]) (by simp [results, Tryd.results31, go_sem, EL.out, EH.out, EE.out]) rfl ⟨rfl, HB.out⟩
end Go.Proofs.YtfjiojdnbdfenaaDoor


/- Plain floats: quotients and differences where no NaN comes; sturm.Count as a list's count. -/
namespace GFl
open Ieee
/-- A float that is no NaN. -/
structure Nn (x : Nat) : Prop where
  w : W64 x
  r : rg x ≤ 9218868437227405312
theorem Nn.isn {x : Nat} (h : Nn x) : GFl.isn x = false := by rw [isn_eq]; have := h.r; simp; omega
theorem wd_nn (s : Bool) {r : Nat} (h : r ≤ 9218868437227405312) : Nn (wd s r) := ⟨wd_w (by omega), by rw [wd_rg (by omega)]; exact h⟩
theorem read_n {x : Nat} (hx : W64 x) (h : rg x < 9218868437227405312) : ∃ m e, double.read x = .number (neg x) m e := by
  obtain ⟨m, e, h1, _⟩ := read_num (f := double) hx (by rw [d_inf]; exact h)
  exact ⟨m, e, h1⟩
theorem read_i {x : Nat} (hx : W64 x) (h : rg x = 9218868437227405312) : double.read x = .infinity (neg x) := read_inf hx (by rw [d_inf]; exact h) good_double
theorem write_i (s : Bool) : double.write (.infinity s) = wd s 9218868437227405312 := by rw [← d_inf]; rfl
theorem div_nn {x d : Nat} (hx : W64 x) (h1 : rg x < 9218868437227405312) (hd : Nn d) (h0 : rg d ≠ 0) : ∃ z, double.div x d = some z ∧ Nn z := by
  rcases Nat.lt_or_ge (rg d) 9218868437227405312 with h | h
  · obtain ⟨r, _, e⟩ := div64 hx hd.w h1 h h0
    exact ⟨_, e, wd_nn _ (Nat.min_le_right _ _)⟩
  · have hi : rg d = 9218868437227405312 := Nat.le_antisymm hd.r h
    obtain ⟨m, e, hr⟩ := read_n hx h1
    have e2 : double.div x d = some (double.write (.number (neg x ^^ neg d) 0 0)) := by
      unfold Format.div
      rw [hr, read_i hd.w hi]; rfl
    refine ⟨_, e2, ?_⟩
    cases (neg x ^^ neg d) <;> exact ⟨w_const (by decide), by decide⟩
theorem sub_nn {x y : Nat} (hx : W64 x) (h1 : rg x < 9218868437227405312) (hy : Nn y) : ∃ z, double.sub x y = some z ∧ Nn z := by
  rcases Nat.lt_or_ge (rg y) 9218868437227405312 with h | h
  · obtain ⟨r, _, e⟩ := sub64 hx hy.w h1 h
    exact ⟨_, e, wd_nn _ (Nat.min_le_right _ _)⟩
  · have hi : rg y = 9218868437227405312 := Nat.le_antisymm hy.r h
    obtain ⟨m, e, hr⟩ := read_n hx h1
    have e2 : double.sub x y = some (wd (!neg y) 9218868437227405312) := by
      unfold Format.sub
      rw [hr, read_i hy.w hi, ← write_i]; rfl
    exact ⟨_, e2, wd_nn _ (Nat.le_refl _)⟩
def fsub (x y : Nat) : Nat := (double.sub x y).getD 0
def fadd (x y : Nat) : Nat := (double.add x y).getD 0
def fmul (x y : Nat) : Nat := (double.mul x y).getD 0
def fdiv (x y : Nat) : Nat := (double.div x y).getD 0
theorem fsub_of {x y z : Nat} (h : double.sub x y = some z) : fsub x y = z := by unfold fsub; rw [h]; rfl
theorem fadd_of {x y z : Nat} (h : double.add x y = some z) : fadd x y = z := by unfold fadd; rw [h]; rfl
theorem fmul_of {x y z : Nat} (h : double.mul x y = some z) : fmul x y = z := by unfold fmul; rw [h]; rfl
theorem fdiv_of {x y z : Nat} (h : double.div x y = some z) : fdiv x y = z := by unfold fdiv; rw [h]; rfl
theorem mgP {E : Nat} (h : 1 ≤ E) : mg B52 (E * B52) = p2 52 * p2 (E - 1) := by
  have := mg_B E 0 h B52_pos
  rw [Nat.add_zero, Nat.add_zero] at this
  rw [this]
  have e : B52 = p2 52 := by rw [p2_def]
  rw [← e]
/-- Below a power of two. -/
theorem rn_below {N D r E : Nat} (hD : 0 < D) (h : IsRn B52 N D r) (hE : 1 ≤ E) (hb : N ≤ p2 52 * p2 (E - 1) * D) : r ≤ E * B52 := rn_le B52_pos hD h (by rw [mgP hE]; exact hb)
theorem natAbs_val (x : Nat) : (val x).natAbs = mg B52 (rg x) := by
  rw [val_eq']
  show (if neg x = true then -((mg B52 (rg x) : Nat) : Int) else ((mg B52 (rg x) : Nat) : Int)).natAbs = mg B52 (rg x)
  generalize mg B52 (rg x) = m
  split <;> omega
theorem p2_suc (n : Nat) : p2 (n + 1) = p2 n * 2 := by rw [p2_def, p2_def, Nat.pow_succ]
/-- A chain's number less a place: finite. -/
theorem sub_fin {a x : Nat} (ha : W64 a) (hx : W64 x) (h1 : rg a ≤ 6867989431740006400) (h2 : rg x ≤ 6867989431740006400) : ∃ z, double.sub a x = some z ∧ Nn z ∧ rg z ≤ 1526 * B52 := by
  obtain ⟨r, hr, e⟩ := sub64 ha hx (by omega) (by omega)
  have hm : mg B52 6867989431740006400 = p2 52 * p2 1524 := by
    have := mgP (E := 1525) (by omega)
    exact this
  have m1 := mg_mono (B := B52) B52_pos h1
  have m2 := mg_mono (B := B52) B52_pos h2
  rw [hm] at m1 m2
  have b : r ≤ 1526 * B52 := by
    refine rn_below (by decide) hr (by omega) ?_
    have e1 : p2 52 * p2 (1526 - 1) = 2 * (p2 52 * p2 1524) := by
      rw [show (1526 - 1 : Nat) = 1524 + 1 from rfl, p2_suc 1524, ← Nat.mul_assoc, Nat.mul_comm]
    rw [e1, Nat.mul_one]
    have a1 := natAbs_val a
    have a2 := natAbs_val x
    omega
  have b2 : r ≤ 9218868437227405312 := Nat.le_trans b (by decide)
  refine ⟨_, e, wd_nn _ (Nat.min_le_right _ _), ?_⟩
  rw [Nat.min_eq_left b2, wd_rg (by omega)]
  exact b
theorem sq_fin {b : Nat} (hb : W64 b) (h1 : rg b ≤ 6858982232485265408) : ∃ z, double.mul b b = some z ∧ W64 z ∧ neg z = false ∧ rg z ≤ 2023 * B52 := by
  obtain ⟨r, hr, e⟩ := mul64 hb hb (by omega) (by omega)
  have hm : mg B52 6858982232485265408 = p2 52 * p2 1522 := by
    have := mgP (E := 1523) (by omega)
    exact this
  have m1 := mg_mono (B := B52) B52_pos h1
  rw [hm] at m1
  have bnd : r ≤ 2023 * B52 := by
    refine rn_below (p2_pos _) hr (by omega) ?_
    have h2 := Nat.mul_le_mul m1 m1
    refine Nat.le_trans h2 (Nat.le_of_eq ?_)
    rw [← p2_add, ← p2_add, ← p2_add, ← p2_add]
  have b2 : r ≤ 9218868437227405312 := Nat.le_trans bnd (by decide)
  have b3 : r < 9223372036854775808 := by omega
  refine ⟨_, e, wd_w (by rw [Nat.min_eq_left b2]; exact b3), ?_, ?_⟩
  · rw [Bool.xor_self, wd_neg (by rw [Nat.min_eq_left b2]; exact b3)]
  · rw [Nat.min_eq_left b2, wd_rg b3]; exact bnd
/-- One row's pivot. -/
def piv (x a : Nat) (b : Option Nat) (d : Nat) : Nat := match b with
  | none => fsub a x
  | some b => fsub (fsub a x) (fdiv (fmul b b) d)
def fix (n : Nat) : Nat := if rg n = 0 then 9223372036854775809 else n
def cF (x : Nat) : List (Nat × Option Nat) → Nat → Int
  | [], _ => 0
  | (a, b) :: r, d => (if neg (fix (piv x a b d)) then 1 else 0) + cF x r (fix (piv x a b d))
theorem cF_cons (x a : Nat) (b : Option Nat) (r : List (Nat × Option Nat)) (d : Nat) : cF x ((a, b) :: r) d = (if neg (fix (piv x a b d)) then 1 else 0) + cF x r (fix (piv x a b d)) := rfl
def cR : Option Nat → List Nat → List Nat → List (Nat × Option Nat)
  | _, [], _ => []
  | p, a :: d, o => (a, p) :: cR o.head? d o.tail
/-- How many are below, in floats. -/
def cntF (x : Nat) (d o : List Nat) : Int := cF x (cR none d o) 0
theorem cR_len : ∀ (d : List Nat) (p : Option Nat) (o : List Nat), (cR p d o).length = d.length := by
  intro d
  induction d with
  | nil => intro p o; rfl
  | cons a d ih => intro p o; show _ + 1 = _ + 1; rw [ih]
theorem cR_drop : ∀ (k : Nat) (d : List Nat) (p : Option Nat) (o : List Nat) (hk : k < d.length), d.length = o.length + 1 →
    ∃ y, (k = 0 → y = p) ∧ (0 < k → ∃ h' : k - 1 < o.length, y = some o[k - 1]) ∧ (cR p d o).drop k = (d[k], y) :: (cR p d o).drop (k + 1) := by
  intro k
  induction k with
  | zero =>
    intro d p o hk hl
    cases d with
    | nil => simp at hk
    | cons a d => exact ⟨p, fun _ => rfl, fun h => absurd h (by decide), rfl⟩
  | succ k ih =>
    intro d p o hk hl
    cases d with
    | nil => simp at hk
    | cons a d =>
      cases o with
      | nil =>
        have : d = [] := List.eq_nil_of_length_eq_zero (by simpa using hl)
        subst this
        simp at hk
      | cons z o =>
        obtain ⟨y, h1, h2, h3⟩ := ih d (some z) o (by simpa using hk) (by simpa using hl)
        refine ⟨y, fun h => (by cases h), fun _ => ?_, ?_⟩
        · cases k with
          | zero => exact ⟨by simp, h1 rfl⟩
          | succ k =>
            obtain ⟨h4, h5⟩ := h2 (Nat.succ_pos _)
            exact ⟨by simp at h4 ⊢; omega, by simpa using h5⟩
        · show (cR (some z) d o).drop k = _
          rw [h3]; simp [cR]
theorem fix_nn {n : Nat} (h : Nn n) : Nn (fix n) ∧ rg (fix n) ≠ 0 := by
  unfold fix
  by_cases h0 : rg n = 0
  · rw [if_pos h0]; exact ⟨⟨w_const (by decide), by decide⟩, by decide⟩
  · rw [if_neg h0]; exact ⟨h, h0⟩
theorem cF_range (x : Nat) : ∀ (r : List (Nat × Option Nat)) (d : Nat), 0 ≤ cF x r d ∧ cF x r d ≤ r.length := by
  intro r
  induction r with
  | nil => intro d; simp [cF]
  | cons y r ih =>
    obtain ⟨a, b⟩ := y
    intro d
    have := ih (fix (piv x a b d))
    rw [cF_cons, List.length_cons]
    split <;> omega
end GFl


/- sturm.Count. -/
namespace Go.Proofs.YtfjiojdnbdfenaaDoor
open Go Go.RowKit Nv GFl Ieee
set_option maxRecDepth 100000
set_option linter.unusedSimpArgs false

def countN (d o : List Nat) (x : Nat) : Int := if wrongE d o x = 0 then cntF x d o else 0
/-- What one row's pivot needs. -/
theorem piv_ok {a x : Nat} (ha : Cf a) (hx : W64 x) (h2 : rg x ≤ 6867989431740006400) : double.sub a x = some (fsub a x) ∧ Nn (fsub a x) ∧ rg (fsub a x) < 9218868437227405312 := by
  obtain ⟨z, e, hz, hb⟩ := sub_fin ha.w hx (Nat.le_trans ha.r (by decide)) h2
  rw [fsub_of e]
  exact ⟨e, hz, Nat.lt_of_le_of_lt hb (by decide)⟩
theorem sq_ok {b : Nat} (hb : Cf b) : double.mul b b = some (fmul b b) ∧ W64 (fmul b b) ∧ neg (fmul b b) = false ∧ rg (fmul b b) < 9218868437227405312 := by
  obtain ⟨z, e, hz, hn, hr⟩ := sq_fin hb.w hb.r
  rw [fmul_of e]
  exact ⟨e, hz, hn, Nat.lt_of_le_of_lt hr (by decide)⟩
theorem q_ok {b d : Nat} (hb : Cf b) (hd : Nn d) (h0 : rg d ≠ 0) : double.div (fmul b b) d = some (fdiv (fmul b b) d) ∧ Nn (fdiv (fmul b b) d) := by
  obtain ⟨_, h1, _, h2⟩ := sq_ok hb
  obtain ⟨z, e, hz⟩ := div_nn h1 h2 hd h0
  rw [fdiv_of e]
  exact ⟨e, hz⟩
theorem piv2_ok {a x b d : Nat} (ha : Cf a) (hx : W64 x) (h2 : rg x ≤ 6867989431740006400) (hb : Cf b) (hd : Nn d) (h0 : rg d ≠ 0) : double.sub (fsub a x) (fdiv (fmul b b) d) = some (fsub (fsub a x) (fdiv (fmul b b) d)) ∧ Nn (fsub (fsub a x) (fdiv (fmul b b) d)) := by
  obtain ⟨_, h3, h4⟩ := piv_ok ha hx h2
  obtain ⟨_, h5⟩ := q_ok hb hd h0
  obtain ⟨z, e, hz⟩ := sub_nn h3.w h4 h5
  rw [fsub_of e]
  exact ⟨e, hz⟩
theorem fix_t {n : Nat} (h : Nn n) : (FloatKind.f64.format.order n 0 == some .eq) = decide (rg n = 0) ∧ (FloatKind.f64.format.order (fix n) 0 == some .lt) = neg (fix n) := by
  refine ⟨by rw [Go.Proofs.YtfjiojdnbdfenaaDoor.eq0 h.w, h.isn]; simp [plc_zero], ?_⟩
  obtain ⟨h1, h2⟩ := fix_nn h
  rw [Go.Proofs.YtfjiojdnbdfenaaDoor.lt0 h1.w, h1.isn]
  rw [Bool.eq_iff_iff]
  simp only [Bool.not_false, Bool.true_and, decide_eq_true_eq]
  rw [plc_lt_zero]
  exact ⟨fun h => h.1, fun h => ⟨h, by omega⟩⟩
/-- What holds at the head of Count's loop. -/
structure CI (W w : World) (d o : List Nat) (x k dv : Nat) (c : Int) : Prop where
  below : Below W.heap.size W w
  nn : 1 ≤ k → Nn dv ∧ rg dv ≠ 0
  c0 : 0 ≤ c
  c1 : c ≤ k
  tot : c + cF x ((cR none d o).drop k) dv = cntF x d o
theorem CI.drew {W w : World} {d o : List Nat} {x k dv : Nat} {c : Int} (h : CI W w d o x k dv c) : CI W w.drew d o x k dv c := ⟨bl_drew h.below, h.nn, h.c0, h.c1, h.tot⟩
set_option maxHeartbeats 8000000 in
theorem count_c (A B : Option Addr) (cA cB : Nat) (d o : List Nat) (x : Nat) (W : World) (hd : Fl W A d) (ho : Fl W B o) (wd : ∀ x ∈ d, W64 x) (wo : ∀ x ∈ o, W64 x) (hx : W64 x) :
    Calls Tryd.prog 14 #[.agg #[.slice A d.length cA, .slice B o.length cB], .float .f64 x] W fun e w' => e = .returned (.tuple #[.int .i64 (countN d o x), .int .i64 (wrongE d o x)]) ∧ Below W.heap.size W w' := by
  have wc : ∀ w, Below W.heap.size W w → Calls Tryd.prog 35 #[.agg #[.slice A d.length cA, .slice B o.length cB], .float .f64 x] w fun e w' => e = .returned (.int .i64 (wrongE d o x)) ∧ Below w.heap.size w w' := fun w h => wrong_c A B cA cB d o x w (hd.below h) (ho.below h) wd wo hx
  have BA := Lib.hid ((Below.refl W.heap.size W).alloc (Nat.le_refl _) (.cells #[.slice A d.length cA, .slice B o.length cB] 24))
  by_cases hw : wrongE d o x = 0
  · have hr : rightB d o = true := by unfold wrongE at hw; by_cases h : rightB d o = true; exact h; rw [if_neg h] at hw; cases hw
    have hx1 : rg x ≤ 6867989431740006400 := by
      unfold wrongE at hw
      rw [if_pos hr] at hw
      apply Classical.byContradiction
      intro h1
      rw [if_pos (show 6867989431740006400 < rg x by omega)] at hw
      split at hw <;> cases hw
    obtain ⟨r1, r2, r3, r4, r5⟩ := rightB_d hr
    have CD : Hid (∀ y ∈ d, Cf y) := Lib.hid (fun y hy => ⟨wd y hy, r4 y hy⟩)
    have CO : Hid (∀ y ∈ o, Cf y) := Lib.hid (fun y hy => ⟨wo y hy, r5 y hy⟩)
    have HD := Lib.hid hd
    have HO := Lib.hid ho
    have HX := Lib.hid hx
    have HX1 := Lib.hid hx1
    have HL : Hid (d.length = o.length + 1) := Lib.hid (by omega)
    have EC : Hid (countN d o x = cntF x d o) := Lib.hid (if_pos hw)
    have EW := Lib.hid hw
    rw [hw] at wc
    have WC := Lib.hid wc
    have hn := r2
    clear wc hw hr hx1 r1 r2 r3 r4 r5 hd ho wd wo hx
    go_enter Tryd.func14, Tryd.ntmps14
    go_wp2_with (first
      | (go_at_call 35; (with_reducible refine (WC.out _ BA.out).mono ?_); rintro e w1 ⟨rfl, hb⟩
         have hblk : w1.heap[W.heap.size]? = _ := kb_new hb
         have HBK := Lib.hid hblk
         have cc0 := kb_cell hblk (i := 0) rfl
         have cc1 := kb_cell hblk (i := 1) rfl
         have HB := Lib.hid (BA.out.trans (hb.mono (by simp))); clear hb hblk))
    go_loopw [7, 8, 22] (fun v7 v8 v22 wr => ∃ (k dv : Nat) (c : Int), v7 = .int .i64 c ∧ v8 = .float .f64 dv ∧ v22 = .int .i64 k ∧ k ≤ d.length ∧ Hid (CI W wr d o x k dv c ∧ Below w1.heap.size w1 wr)) (fun _ _ v _ => d.length - (intOf v).toNat)
    case atStart => exact ⟨0, 0, 0, rfl, rfl, rfl, Nat.zero_le _, Lib.hid ⟨⟨HB.out, fun h => absurd h (by decide), by decide, by decide, by simp [cntF]⟩, Below.refl _ _⟩⟩
    case round =>
      obtain ⟨k, dv, c, rfl, rfl, rfl, hk, hq⟩ := hrel
      clear cc0 cc1
      by_cases hlt : k < d.length
      · have l1 : decide (k < d.length) = true := decide_eq_true hlt
        have cx := CD.out _ (List.getElem_mem hlt)
        obtain ⟨ad, hA, hc⟩ := HD.out.at hlt
        subst hA
        have hcell : wr.cell? (ad.add k) = some (.float .f64 d[k]) := (hq.out.1.below.cell (World.block_lt_of_cell? W _ hc)).trans hc
        obtain ⟨y, hy0, hy1, hrow⟩ := cR_drop k d none o hlt HL.out
        have hb2 : wr.heap[W.heap.size]? = _ := kb_keep hq.out.2 HBK.out
        have cc0 := kb_cell hb2 (i := 0) rfl
        have cc1 := kb_cell hb2 (i := 1) rfl
        have HBK2 := Lib.hid hb2
        obtain ⟨p1, p2, p3⟩ := piv_ok cx HX.out HX1.out
        obtain ⟨Z, hZ⟩ : ∃ Z, fsub d[k] x = Z := ⟨_, rfl⟩
        have s0 : ∀ t w, (binOp .sub t (.float .f64 d[k]) (.float .f64 x)).run Tryd.prog w = .ok (.float .f64 Z) w := fun t w => run_float_arith w .sub t .f64 _ _ Z (by rw [← hZ]; exact p1)
        have CX := Lib.hid cx
        have HROW := Lib.hid hrow
        have HY0 := Lib.hid hy0
        have HY1 := Lib.hid hy1
        have HZ1 := Lib.hid hZ
        clear cx hrow hy0 hy1 hc hb2 hZ p1
        rcases Nat.eq_zero_or_pos k with h0 | h0
        · have l3 : decide (0 < k) = false := decide_eq_false (by omega)
          obtain ⟨P, hP⟩ : ∃ P, P = Z := ⟨_, rfl⟩
          have PN : Hid (Nn P) := Lib.hid (by rw [hP, ← HZ1.out]; exact p2)
          have PV : Hid (piv x d[k] y dv = P) := Lib.hid (by rw [HY0.out h0, hP, ← HZ1.out]; rfl)
          subst hP
          clear p2 p3 HZ1 h0
          have c0 := hq.out.1.c0
          have c1 : c ≤ 64 := by have := hq.out.1.c1; omega
          have NX : Hid (∀ c', c' = c + (if neg (fix P) then 1 else 0) → CI W wr d o x (k + 1) (fix P) c') := Lib.hid (fun c' hc' => ⟨hq.out.1.below, fun _ => fix_nn PN.out, by rw [hc']; have := hq.out.1.c0; split <;> omega, by rw [hc']; have := hq.out.1.c1; split <;> omega, by
            have h1 := hq.out.1.tot
            rw [HROW.out, cF_cons, PV.out] at h1
            rw [hc']; omega⟩)
          have TB := Lib.hid hq.out.2
          obtain ⟨t1, t2⟩ := fix_t PN.out
          clear hq
          by_cases hz : rg P = 0
          · have ef : fix P = 9223372036854775809 := if_pos hz
            rw [decide_eq_true hz] at t1
            have t3 : (FloatKind.f64.format.order 9223372036854775809 0 == some .lt) = true := by decide
            have HZ := Lib.hid hz
            have EF := Lib.hid ef
            have NX2 := Lib.hid (NX.out (c + 1) (by rw [EF.out, if_pos (show neg 9223372036854775809 = true by decide)]))
            clear hz ef t2 NX
            go_wp2
            go_roundw
            case rel => exact ⟨k + 1, fix P, c + 1, rfl, by rw [EF.out], by go_num, by omega, Lib.hid ⟨NX2.out, TB.out⟩⟩
            case measure => simp [intOf]; omega
          · have ef : fix P = P := if_neg hz
            rw [decide_eq_false hz] at t1
            rw [ef] at t2
            have EF := Lib.hid ef
            cases hs : neg P
            all_goals
              rw [hs] at t2
              have NX2 := Lib.hid (NX.out _ rfl)
              rw [EF.out, hs] at NX2
              clear ef hz hs
              go_wp2
              go_roundw
              case rel => exact ⟨k + 1, P, _, rfl, rfl, by go_num, by omega, Lib.hid ⟨by simpa using NX2.out, TB.out⟩⟩
              case measure => simp [intOf]; omega
        · obtain ⟨j, rfl⟩ : ∃ j, k = j + 1 := ⟨k - 1, by omega⟩
          have l3 : decide (0 < j + 1) = true := decide_eq_true (by omega)
          have l1' : decide ((j : Int) + 1 < (d.length : Int)) = true := decide_eq_true (by omega)
          have hcell' : wr.cell? ⟨ad.block, ad.off + (j + 1), none⟩ = some (.float .f64 d[j + 1]) := by have := hcell; simpa [Addr.add] using this
          obtain ⟨hjo, hy⟩ := HY1.out (by omega)
          have hjo : j < o.length := hjo
          have hyo : y = some o[j] := hy
          have co1 := CO.out _ (List.getElem_mem hjo)
          obtain ⟨bd, hB, hc⟩ := HO.out.at hjo
          subst hB
          have hcell2 : wr.cell? (bd.add j) = some (.float .f64 o[j]) := (hq.out.1.below.cell (World.block_lt_of_cell? W _ hc)).trans hc
          have dn := hq.out.1.nn (by omega)
          obtain ⟨a1, a2, a3, a4⟩ := sq_ok co1
          obtain ⟨b1, b2⟩ := q_ok co1 dn.1 dn.2
          obtain ⟨e1, e2⟩ := piv2_ok CX.out HX.out HX1.out co1 dn.1 dn.2
          obtain ⟨Q, hQ⟩ : ∃ Q, fmul o[j] o[j] = Q := ⟨_, rfl⟩
          obtain ⟨R, hR⟩ : ∃ R, fdiv Q dv = R := ⟨_, rfl⟩
          obtain ⟨P, hP⟩ : ∃ P, fsub Z R = P := ⟨_, rfl⟩
          have pv : piv x d[j + 1] y dv = P := by
            rw [hyo]
            show fsub (fsub d[j + 1] x) (fdiv (fmul o[j] o[j]) dv) = P
            rw [HZ1.out, hQ, hR, hP]
          rw [HZ1.out, hQ, hR, hP] at e1 e2
          rw [hQ] at a1 b1
          rw [hR] at b1
          have s1 : ∀ t w, (binOp .mul t (.float .f64 o[j]) (.float .f64 o[j])).run Tryd.prog w = .ok (.float .f64 Q) w := fun t w => run_float_arith w .mul t .f64 _ _ Q a1
          have s2 : ∀ t w, (binOp .quo t (.float .f64 Q) (.float .f64 dv)).run Tryd.prog w = .ok (.float .f64 R) w := fun t w => run_float_arith w .quo t .f64 _ _ R b1
          have s3 : ∀ t w, (binOp .sub t (.float .f64 Z) (.float .f64 R)).run Tryd.prog w = .ok (.float .f64 P) w := fun t w => run_float_arith w .sub t .f64 _ _ P e1
          have PN := Lib.hid e2
          have PV := Lib.hid pv
          have i0 : (0 : Int) ≤ (j : Int) := by omega
          have i1 : (j : Int) < (o.length : Int) := by omega
          have i2 : IntKind.i64.wrap ((j : Int) + 1 - 1) = (j : Int) := by rw [IntKind.wrap_i64]; omega
          have i3 : IntKind.i64.wrap ((j : Int)) = (j : Int) := by rw [IntKind.wrap_i64]; omega
          clear hy hyo co1 hc dn a1 a2 a3 a4 b1 b2 e1 e2 hQ hR hP pv p2 p3 HZ1 HY0 HY1 h0
          have c0 := hq.out.1.c0
          have c1 : c ≤ 64 := by have := hq.out.1.c1; omega
          have NX : Hid (∀ c', c' = c + (if neg (fix P) then 1 else 0) → CI W wr d o x (j + 1 + 1) (fix P) c') := Lib.hid (fun c' hc' => ⟨hq.out.1.below, fun _ => fix_nn PN.out, by rw [hc']; have := hq.out.1.c0; split <;> omega, by rw [hc']; have := hq.out.1.c1; split <;> omega, by
            have h1 := hq.out.1.tot
            rw [HROW.out, cF_cons, PV.out] at h1
            rw [hc']; omega⟩)
          have TB := Lib.hid hq.out.2
          obtain ⟨t1, t2⟩ := fix_t PN.out
          clear hq
          by_cases hz : rg P = 0
          · have ef : fix P = 9223372036854775809 := if_pos hz
            rw [decide_eq_true hz] at t1
            have t3 : (FloatKind.f64.format.order 9223372036854775809 0 == some .lt) = true := by decide
            have HZ := Lib.hid hz
            have EF := Lib.hid ef
            have NX2 := Lib.hid (NX.out (c + 1) (by rw [EF.out, if_pos (show neg 9223372036854775809 = true by decide)]))
            clear hz ef t2 NX
            go_wp2
            go_region_held3 (fun w' => w'.cell? ⟨W.heap.size, 0, none⟩ = some (.slice (some ad) d.length cA) ∧ w'.cell? ⟨W.heap.size, 1, none⟩ = some (.slice (some bd) o.length cB) ∧ w'.cell? (bd.add j) = some (.float .f64 o[j])) (go_keep) (fail)
            go_wp2
            go_roundw
            case rel => exact ⟨j + 1 + 1, fix P, c + 1, rfl, by rw [EF.out], by go_num, by omega, Lib.hid ⟨NX2.out.drew, bl_drew TB.out⟩⟩
            case measure => simp [intOf]; omega
          · have ef : fix P = P := if_neg hz
            rw [decide_eq_false hz] at t1
            rw [ef] at t2
            have EF := Lib.hid ef
            cases hs : neg P
            all_goals
              rw [hs] at t2
              have NX2 := Lib.hid (NX.out _ rfl)
              rw [EF.out, hs] at NX2
              clear ef hz hs
              go_wp2
              go_region_held3 (fun w' => w'.cell? ⟨W.heap.size, 0, none⟩ = some (.slice (some ad) d.length cA) ∧ w'.cell? ⟨W.heap.size, 1, none⟩ = some (.slice (some bd) o.length cB) ∧ w'.cell? (bd.add j) = some (.float .f64 o[j])) (go_keep) (fail)
              go_wp2
              go_roundw
              case rel => exact ⟨j + 1 + 1, P, _, rfl, rfl, by go_num, by omega, Lib.hid ⟨by simpa using NX2.out.drew, bl_drew TB.out⟩⟩
              case measure => simp [intOf]; omega
      · have l1 : decide (k < d.length) = false := decide_eq_false hlt
        have fin : c = cntF x d o := by
          have h1 := hq.out.1.tot
          rw [List.drop_eq_nil_iff.2 (by rw [cR_len]; omega)] at h1
          rw [← h1]; simp [cF]
        have FIN := Lib.hid fin
        have BL := Lib.hid hq.out.1.below
        clear fin hq
        go_wp2
        go_ret2
        exact ⟨ret_int_int (by rw [EC.out, FIN.out]) EW.out.symm, BL.out⟩
  · have e0 : countN d o x = 0 := if_neg hw
    have k0 : (wrongE d o x != 0) = true := by simpa using hw
    obtain ⟨E, hE⟩ : ∃ E, wrongE d o x = E := ⟨_, rfl⟩
    rw [hE] at wc k0
    rw [hE]
    have WC := Lib.hid wc
    have E0 := Lib.hid e0
    clear wc hw hd ho wd wo hx e0 hE
    go_enter Tryd.func14, Tryd.ntmps14
    go_wp2_with (first
      | (go_at_call 35; (with_reducible refine (WC.out _ BA.out).mono ?_); rintro e w1 ⟨rfl, hb⟩; have HB := Lib.hid (BA.out.trans (hb.mono (by simp))); clear hb))
    go_ret2
    exact ⟨ret_int_int E0.out.symm rfl, HB.out⟩
end Go.Proofs.YtfjiojdnbdfenaaDoor


/- Plain floats: a chord's numbers. -/
namespace GFl
open Ieee
/-- A length or a prop: from 2^-60 to 2^60. -/
structure Bt (x : Nat) : Prop where
  w : W64 x
  n : neg x = false
  lo : 4336966441157787648 ≤ rg x
  hi : rg x ≤ 4877398396442247168
/-- A push: from 0 to 2^60. -/
structure Ps (x : Nat) : Prop where
  w : W64 x
  hi : rg x ≤ 4877398396442247168
  pos : plc x = rg x
theorem mg60 : mg B52 4877398396442247168 = p2 52 * p2 1082 := mgP (E := 1083) (by omega)
theorem mg60n : mg B52 4336966441157787648 = p2 52 * p2 962 := mgP (E := 963) (by omega)
theorem wd_fin {s : Bool} {r E : Nat} (h : r ≤ E * B52) (hE : E * B52 < 9218868437227405312) : Nn (wd s (min r 9218868437227405312)) ∧ rg (wd s (min r 9218868437227405312)) ≤ E * B52 := by
  have h1 : r ≤ 9218868437227405312 := Nat.le_trans h (Nat.le_of_lt hE)
  refine ⟨wd_nn _ (Nat.min_le_right _ _), ?_⟩
  rw [Nat.min_eq_left h1, wd_rg (by omega)]
  exact h
/-- A push over a length. -/
theorem quo_ok {s y : Nat} (hs : Ps s) (hy : Bt y) : double.div s y = some (fdiv s y) ∧ Nn (fdiv s y) ∧ rg (fdiv s y) ≤ 1143 * B52 ∧ (neg s = false → neg (fdiv s y) = false) := by
  have hh := hs.hi
  have hl := hy.lo
  have hi := hy.hi
  obtain ⟨r, hr, e⟩ := div64 hs.w hy.w (by omega) (by omega) (by omega)
  have m1 := mg_mono (B := B52) B52_pos hh
  have m2 := mg_mono (B := B52) B52_pos hl
  rw [mg60] at m1
  rw [mg60n] at m2
  have hpos : 0 < mg B52 (rg y) := Nat.lt_of_lt_of_le (Nat.mul_pos (p2_pos _) (p2_pos _)) m2
  have b : r ≤ 1143 * B52 := by
    refine rn_below hpos hr (by omega) ?_
    have h1 : mg B52 (rg s) * p2 1074 ≤ p2 52 * p2 1082 * p2 1074 := Nat.mul_le_mul_right _ m1
    have h2 : p2 52 * p2 (1143 - 1) * (p2 52 * p2 962) ≤ p2 52 * p2 (1143 - 1) * mg B52 (rg y) := Nat.mul_le_mul_left _ m2
    refine Nat.le_trans h1 (Nat.le_trans (Nat.le_of_eq ?_) h2)
    rw [← p2_add, ← p2_add, ← p2_add, ← p2_add, ← p2_add]
  obtain ⟨n1, n2⟩ := wd_fin (s := neg s ^^ neg y) b (by decide)
  rw [fdiv_of e]
  refine ⟨e, n1, n2, fun h => ?_⟩
  rw [h, hy.n, wd_neg (by have := Nat.min_le_right r 9218868437227405312; omega)]; rfl
theorem mgE {E r : Nat} (h1 : 1 ≤ E) (h : r ≤ E * B52) : mg B52 r ≤ p2 52 * p2 (E - 1) := by
  have := mg_mono (B := B52) B52_pos h
  rwa [mgP h1] at this
theorem add_ok {a b : Nat} (ha : Nn a) (hb : Nn b) (h1 : rg a ≤ 1143 * B52) (h2 : rg b ≤ 1143 * B52) : double.add a b = some (fadd a b) ∧ Nn (fadd a b) ∧ rg (fadd a b) ≤ 1144 * B52 := by
  have hB : 1143 * B52 < 9218868437227405312 := by decide
  obtain ⟨r, hr, e⟩ := add64 ha.w hb.w (by omega) (by omega)
  have b : r ≤ 1144 * B52 := by
    refine rn_below (by decide) hr (by omega) ?_
    have m1 := mgE (by omega) h1
    have m2 := mgE (by omega) h2
    have a1 := natAbs_val a
    have a2 := natAbs_val b
    have e1 : p2 52 * p2 (1144 - 1) = 2 * (p2 52 * p2 (1143 - 1)) := by
      rw [show (1144 - 1 : Nat) = 1142 + 1 from rfl, p2_suc 1142, ← Nat.mul_assoc, Nat.mul_comm]
    rw [e1, Nat.mul_one]
    omega
  obtain ⟨n1, n2⟩ := wd_fin (s := _) b (by decide)
  rw [fadd_of e]
  exact ⟨e, n1, n2⟩
theorem dif_ok {p c : Nat} (hp : Bt p) (hc : Nn c) (h2 : rg c ≤ 1144 * B52) : double.sub p c = some (fsub p c) ∧ Nn (fsub p c) ∧ rg (fsub p c) ≤ 1145 * B52 := by
  have hB : 1144 * B52 < 9218868437227405312 := by decide
  have hh := hp.hi
  have hp2 : rg p ≤ 1144 * B52 := Nat.le_trans hp.hi (by decide)
  obtain ⟨r, hr, e⟩ := sub64 hp.w hc.w (by omega) (by omega)
  have b : r ≤ 1145 * B52 := by
    refine rn_below (by decide) hr (by omega) ?_
    have m1 := mgE (by omega) hp2
    have m2 := mgE (by omega) h2
    have a1 := natAbs_val p
    have a2 := natAbs_val c
    have e1 : p2 52 * p2 (1145 - 1) = 2 * (p2 52 * p2 (1144 - 1)) := by
      rw [show (1145 - 1 : Nat) = 1143 + 1 from rfl, p2_suc 1143, ← Nat.mul_assoc, Nat.mul_comm]
    rw [e1, Nat.mul_one]
    omega
  obtain ⟨n1, n2⟩ := wd_fin (s := _) b (by decide)
  rw [fsub_of e]
  exact ⟨e, n1, n2⟩
end GFl

