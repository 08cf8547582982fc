/- girderlaw01.BitsOrder answers true for any three floats. -/
import Derived.Test.YtddleibffkaenaaDoorL01
import Derived.Deep.DeepCutAuto
namespace Go.Proofs.YtddleibffkaenaaDoor
open Go Go.RowKit GFl
set_option maxRecDepth 100000
attribute [local go_sem] run_f64bits run_f64frombits run_neg_f64

/-- Behind all places. -/
def MX : Int := 9223372036854775807
theorem rk_bd (x : Nat) : -9218868437227405312 ≤ rankF x ∧ rankF x ≤ MX := by
  unfold rankF MX
  cases h : isn x
  · have := plc_bd h; simp; omega
  · simp
theorem rk_isn (x : Nat) : isn x = decide (rankF x = MX) := by
  unfold rankF MX
  cases h : isn x
  · have := plc_bd h; simp; omega
  · simp
theorem rk_z (x : Nat) : 0 ≤ rankZ x ∧ rankZ x ≤ 1 ∧ (rankZ x = 1 → rankF x = 0) := by
  unfold rankZ rankF
  cases h : isn x
  · simp only [Bool.false_eq_true, if_false]
    split
    · rename_i h1; exact ⟨by omega, by omega, fun _ => h1.1⟩
    · exact ⟨by omega, by omega, fun h => by omega⟩
  · simp
theorem rk_plc {x : Nat} (h : isn x = false) : plc x = rankF x := by unfold rankF; rw [h]; rfl
theorem rk_lt {x y : Nat} (hx : W64 x) (hy : W64 y) : (FloatKind.f64.format.order x y == some .lt) = decide (rankF x < rankF y ∧ rankF y < MX) := by
  rw [t_lt hx hy]
  have bx := rk_bd x
  have by' := rk_bd y
  have ix := rk_isn x
  have iy := rk_isn y
  cases h1 : isn x <;> cases h2 : isn y <;> simp only [h1, h2, eq_comm (a := false), eq_comm (a := true), decide_eq_true_eq, decide_eq_false_iff_not] at ix iy
  · rw [rk_plc h1, rk_plc h2, Bool.eq_iff_iff]; simp; omega
  all_goals (rw [Bool.eq_iff_iff]; simp; omega)
theorem rk_le {x y : Nat} (hx : W64 x) (hy : W64 y) : (FloatKind.f64.format.order x y == some .lt || FloatKind.f64.format.order x y == some .eq) = decide (rankF x ≤ rankF y ∧ rankF y < MX) := by
  rw [t_le hx hy]
  have bx := rk_bd x
  have by' := rk_bd y
  have ix := rk_isn x
  have iy := rk_isn y
  cases h1 : isn x <;> cases h2 : isn y <;> simp only [h1, h2, eq_comm (a := false), eq_comm (a := true), decide_eq_true_eq, decide_eq_false_iff_not] at ix iy
  · rw [rk_plc h1, rk_plc h2, Bool.eq_iff_iff]; simp; omega
  all_goals (rw [Bool.eq_iff_iff]; simp; omega)
theorem rk_eq {x y : Nat} (hx : W64 x) (hy : W64 y) : (FloatKind.f64.format.order x y == some .eq) = decide (rankF x = rankF y ∧ rankF y < MX) := by
  rw [t_eq hx hy]
  have bx := rk_bd x
  have by' := rk_bd y
  have ix := rk_isn x
  have iy := rk_isn y
  cases h1 : isn x <;> cases h2 : isn y <;> simp only [h1, h2, eq_comm (a := false), eq_comm (a := true), decide_eq_true_eq, decide_eq_false_iff_not] at ix iy
  · rw [rk_plc h1, rk_plc h2, Bool.eq_iff_iff]; simp; omega
  all_goals (rw [Bool.eq_iff_iff]; simp; omega)
theorem rk_btw (x y : Nat) : betwOk x y = decide (rankF x ≤ rankF y ∧ rankF y < MX) := by
  unfold betwOk
  have bx := rk_bd x
  have by' := rk_bd y
  have ix := rk_isn x
  have iy := rk_isn y
  cases h1 : isn x <;> cases h2 : isn y <;> simp only [h1, h2, eq_comm (a := false), eq_comm (a := true), decide_eq_true_eq, decide_eq_false_iff_not] at ix iy
  · rw [rk_plc h1, rk_plc h2, Bool.eq_iff_iff]; simp; omega
  all_goals (rw [Bool.eq_iff_iff]; simp; omega)
theorem rk_btwF (x y : Nat) : betwF x y = if rankF x ≤ rankF y ∧ rankF y < MX then rankF y - rankF x else 0 := by
  unfold betwF
  rw [rk_btw]
  have bx := rk_bd x
  by_cases h : rankF x ≤ rankF y ∧ rankF y < MX
  · have ix := rk_isn x
    have iy := rk_isn y
    have e1 : isn x = false := by rw [ix]; simp; omega
    have e2 : isn y = false := by rw [iy]; simp; omega
    simp only [h, and_self, decide_true, if_true]
    rw [rk_plc e1, rk_plc e2]
  · simp only [h, decide_false, Bool.false_eq_true, if_false]
theorem rk_same {x y : Nat} (hx : W64 x) (hy : W64 y) : sameF x y = decide (rankF x = rankF y ∧ rankZ x = rankZ y) := by
  have bx := rk_bd x
  have by' := rk_bd y
  have ix := rk_isn x
  have iy := rk_isn y
  unfold sameF
  cases h1 : isn x <;> cases h2 : isn y
  · simp only [Bool.and_self, Bool.or_false]
    rw [decide_eq_decide]
    constructor
    · intro h; subst h; exact ⟨rfl, rfl⟩
    · rintro ⟨h3, h4⟩
      rw [← rk_plc h1, ← rk_plc h2] at h3
      have hr : rg x = rg y := by rw [← plc_natAbs, ← plc_natAbs, h3]
      refine w64_ext hx hy ?_ hr
      unfold rankZ at h4
      rw [h1, h2, ← h3] at h4
      simp only [Bool.false_eq_true, if_false] at h4
      rw [plc_eq, plc_eq, hr] at h3
      rw [plc_eq, hr] at h4
      cases h5 : neg x <;> cases h6 : neg y <;> simp [h5, h6] at h3 h4 ⊢ <;> omega
  · simp only [Bool.and_true, Bool.or_false]
    rw [decide_eq_decide]
    rw [h1] at ix; rw [h2] at iy
    simp only [eq_comm (a := false), eq_comm (a := true), decide_eq_true_eq, decide_eq_false_iff_not] at ix iy
    constructor
    · intro h; subst h; exact absurd iy ix
    · intro h; omega
  · simp only [Bool.and_false, Bool.or_false]
    rw [decide_eq_decide]
    rw [h1] at ix; rw [h2] at iy
    simp only [eq_comm (a := false), eq_comm (a := true), decide_eq_true_eq, decide_eq_false_iff_not] at ix iy
    constructor
    · intro h; subst h; exact absurd ix iy
    · intro h; omega
  · rw [h1] at ix; rw [h2] at iy
    simp only [eq_comm (a := true), decide_eq_true_eq] at ix iy
    have z1 : rankZ x = 0 := by unfold rankZ; rw [h1]; rfl
    have z2 : rankZ y = 0 := by unfold rankZ; rw [h2]; rfl
    simp [ix, iy, z1, z2]
theorem rk_ord (x y : Nat) : (orderF x y = -1 ∧ (rankF x < rankF y ∨ rankF x = rankF y ∧ rankZ x < rankZ y)) ∨ (orderF x y = 0 ∧ rankF x = rankF y ∧ rankZ x = rankZ y) ∨ (orderF x y = 1 ∧ (rankF y < rankF x ∨ rankF x = rankF y ∧ rankZ y < rankZ x)) := by
  unfold orderF cmpI
  (repeat' split) <;> omega

theorem rk_ne0 {x : Nat} (hx : W64 x) : (FloatKind.f64.format.order x 0 != some .eq) = decide (¬ rankF x = 0) := by
  rw [bne, rk_eq hx (w_const (by decide)), show rankF 0 = 0 from by decide]
  rw [Bool.eq_iff_iff]; simp [MX]
theorem rk_nes {x : Nat} (hx : W64 x) : (FloatKind.f64.format.order x x != some .eq) = decide (rankF x = MX) := by rw [t_ne_self hx, rk_isn]
theorem rk_eqs {x : Nat} (hx : W64 x) : (FloatKind.f64.format.order x x == some .eq) = decide (¬ rankF x = MX) := by
  rw [t_eq_self hx, rk_isn]; rw [Bool.eq_iff_iff]; simp
/-- What the outcomes of the three comparisons say. -/
structure OrdF (a b c : Nat) (x y z : Int) : Prop where
  ab : orderF a b = x
  ba : orderF b a = -x
  bc : orderF b c = y
  ac : orderF a c = z
theorem rk_ordR (x y : Nat) : (orderF x y = -1 ∧ 2 * rankF x + rankZ x < 2 * rankF y + rankZ y) ∨ (orderF x y = 0 ∧ 2 * rankF x + rankZ x = 2 * rankF y + rankZ y) ∨ (orderF x y = 1 ∧ 2 * rankF y + rankZ y < 2 * rankF x + rankZ x) := by
  have o := rk_ord x y
  have z1 := rk_z x
  have z2 := rk_z y
  omega
theorem ord_cases (a b c : Nat) : ∃ x y z : Int, OrdF a b c x y z ∧ ((x = -1 ∧ (y = -1 ∧ z = -1 ∨ y = 0 ∧ z = -1 ∨ y = 1 ∧ (z = -1 ∨ z = 0 ∨ z = 1))) ∨ (x = 0 ∧ (y = -1 ∧ z = -1 ∨ y = 0 ∧ z = 0 ∨ y = 1 ∧ z = 1)) ∨ (x = 1 ∧ (y = -1 ∧ (z = -1 ∨ z = 0 ∨ z = 1) ∨ y = 0 ∧ z = 1 ∨ y = 1 ∧ z = 1))) := by
  have o1 := rk_ordR a b
  have o2 := rk_ordR b a
  have o3 := rk_ordR b c
  have o4 := rk_ordR a c
  generalize 2 * rankF a + rankZ a = A at *
  generalize 2 * rankF b + rankZ b = B at *
  generalize 2 * rankF c + rankZ c = C at *
  refine ⟨orderF a b, orderF b c, orderF a c, ⟨rfl, by omega, rfl, rfl⟩, by omega⟩
theorem btw_sum {a b c : Nat} (h1 : rankF a ≤ rankF b ∧ rankF b < 9223372036854775807) (h2 : rankF b ≤ rankF c ∧ rankF c < 9223372036854775807) : IntKind.u64.wrap (betwF a b + betwF b c) = betwF a c := by
  have b1 := rk_bd a
  have b2 := rk_bd b
  have b3 := rk_bd c
  rw [rk_btwF a b, rk_btwF b c, rk_btwF a c]
  unfold MX at *
  rw [if_pos h1, if_pos h2, if_pos (by omega), IntKind.wrap_u64]
  omega
theorem btw_no {a b : Nat} (h : ¬ (rankF a ≤ rankF b ∧ rankF b < 9223372036854775807)) : betwF a b = 0 := by
  rw [rk_btwF]; unfold MX; rw [if_neg h]
theorem btw_no' {a b : Nat} (h : ¬ (rankF a < rankF b ∧ rankF b < 9223372036854775807 ∨ rankF a = rankF b ∧ rankF b < 9223372036854775807)) : betwF a b = 0 := btw_no (by omega)
set_option maxHeartbeats 8000000 in
theorem bitsOrder_c (a b c : Nat) (ha : W64 a) (hb : W64 b) (hc : W64 c) (w : World) (hT : Tab w) : Calls Tryd.prog 8 #[.float .f64 a, .float .f64 b, .float .f64 c] w fun e w' => e = .returned (.bool true) ∧ Below w.heap.size w w' := by
  have S := Lib.hid (rk_same ha hb)
  have OO := Lib.hid (ord_cases a b c)
  go_enter Tryd.func8, Tryd.ntmps8
  go_wp2_with fail
  refine (order_c a b ha hb _).mono ?_
  rintro e w1 ⟨rfl, hb1⟩
  go_wp2_with fail
  refine (order_c b a hb ha _).mono ?_
  rintro e w2 ⟨rfl, hb2⟩
  go_wp2_with fail
  refine (order_c b c hb hc _).mono ?_
  rintro e w3 ⟨rfl, hb3⟩
  go_wp2_with fail
  refine (order_c a c ha hc _).mono ?_
  rintro e w4 ⟨rfl, hb4⟩
  have hbb := bl_then (bl_then (bl_then hb1 hb2) hb3) hb4
  have hT4 := hT.below hbb
  clear hb1 hb2 hb3 hb4
  go_upto_region 2 with (fail)
  go_cut [7, 8, 9, 10, 72] (fun v7 v8 v9 v10 v72 wx => v7 = .int .i64 (orderF a b) ∧ v8 = .int .i64 (orderF b a) ∧ v9 = .int .i64 (orderF b c) ∧ v10 = .int .i64 (orderF a c) ∧ v72 = .bool false ∧ w4 = wx)
  case first =>
    obtain ⟨x, y, z, O, hxyz⟩ := OO.out
    have hs := S.out
    have o := rk_ord a b
    rw [O.ab] at o
    rw [O.ab, O.ba, O.bc, O.ac]
    have OH := Lib.hid O
    clear O S OO
    have hs' : sameF a b = decide (x = 0) := by rw [hs, decide_eq_decide]; omega
    clear hs o
    rcases hxyz with ⟨rfl, ⟨rfl, rfl⟩ | ⟨rfl, rfl⟩ | ⟨rfl, rfl | rfl | rfl⟩⟩ | ⟨rfl, ⟨rfl, rfl⟩ | ⟨rfl, rfl⟩ | ⟨rfl, rfl⟩⟩ | ⟨rfl, ⟨rfl, rfl | rfl | rfl⟩ | ⟨rfl, rfl⟩ | ⟨rfl, rfl⟩⟩
    all_goals as_aux_lemma =>
      go_wp2_with (go_at_call 32; refine (same_c _ _ ha hb _).mono ?_; rw [hs']; rintro e w' ⟨rfl, rfl⟩)
      go_meet
      exact ⟨by rw [OH.out.ab], by rw [OH.out.ba] <;> rfl, by rw [OH.out.bc], by rw [OH.out.ac], rfl, rfl⟩
  case rest =>
    obtain ⟨rfl, rfl, rfl, rfl, rfl, rfl⟩ := hcut
    clear S OO
    go_upto_region 4 with (fail)
    go_cut [7, 115] (fun v7 v115 wx => v115 = .bool false ∧ w4 = wx)
    case first =>
      have k1 := rk_lt ha hb
      have k2 := rk_lt hb ha
      have k3 := rk_eq ha hb
      have k4 := rk_ne0 ha
      have k5 := rk_nes ha
      have k6 := rk_eqs hb
      have b1 := rk_bd a
      have b2 := rk_bd b
      unfold MX at *
      have o := rk_ordR a b
      have R := Lib.hid o
      have hx : orderF a b = -1 ∨ orderF a b = 0 ∨ orderF a b = 1 := by omega
      clear o
      rcases hx with hx | hx | hx
      all_goals as_aux_lemma =>
        rw [hx]
        have X := Lib.hid hx
        clear hx
        go_wp2
        all_goals go_meet
        all_goals (refine ⟨?_, rfl⟩; go_light; have r := R.out; have o := X.out; have z1 := rk_z a; have z2 := rk_z b; first | rfl | (exfalso; omega) | (congr 1; simp; omega))
    case rest =>
      obtain ⟨rfl, rfl⟩ := hcut
      go_upto_region 9 with (first | ((with_reducible refine (between_c _ _ ha hb _).mono ?_); rintro e w' ⟨rfl, rfl⟩) | ((with_reducible refine (between_c _ _ hb hc _).mono ?_); rintro e w' ⟨rfl, rfl⟩) | ((with_reducible refine (between_c _ _ ha hc _).mono ?_); rintro e w' ⟨rfl, rfl⟩))
      have k1 := rk_lt ha hb
      have k3 := rk_eq ha hb
      have k8 := rk_le hb hc
      have k9 := rk_le ha hc
      have p1 := rk_btw a b
      have p2' := rk_btw b c
      have p3 := rk_btw a c
      unfold MX at *
      have q1 : betwOk a b = (decide (rankF a < rankF b) && decide (rankF b < 9223372036854775807) || decide (rankF a = rankF b) && decide (rankF b < 9223372036854775807)) := by
        rw [p1, Bool.eq_iff_iff]; simp; omega
      have q2 : betwOk b c = (decide (rankF b ≤ rankF c) && decide (rankF c < 9223372036854775807)) := by
        rw [p2', Bool.eq_iff_iff]; simp
      have q3 : betwOk a c = (decide (rankF a ≤ rankF c) && decide (rankF c < 9223372036854775807)) := by
        rw [p3, Bool.eq_iff_iff]; simp
      clear p1 p2' p3
      go_cut [12, 14, 16, 160] (fun v12 v14 v16 v160 wx => v12 = .bool (betwOk a b) ∧ v14 = .bool (betwOk b c) ∧ v160 = .bool false ∧ w' = wx)
      case first => as_aux_lemma =>
        go_wp2
        all_goals go_meet
        all_goals (refine ⟨?_, ?_, ?_, rfl⟩; all_goals go_light; all_goals first | rfl | (rw [q1]; done) | (rw [q2]; done) | (congr 1; rw [btw_no' (by omega)]; simp))
      case rest => as_aux_lemma =>
        obtain ⟨rfl, rfl, rfl, rfl⟩ := hcut
        have N := Lib.hid hbb
        clear hbb
        by_cases hP : (rankF a < rankF b ∧ rankF b < 9223372036854775807 ∨ rankF a = rankF b ∧ rankF b < 9223372036854775807) ∧ rankF b ≤ rankF c ∧ rankF c < 9223372036854775807
        · have hs : (IntKind.u64.wrap (betwF a b + betwF b c) == betwF a c) = true := by rw [btw_sum (by omega) hP.2]; simp
          have e1 : betwOk a b = true := by rw [q1]; simp; omega
          have e2 : betwOk b c = true := by rw [q2]; simp; omega
          clear q1 q2 q3 k1 k3 k8 k9 hP
          go_wp2_with fail
          refine (awake_c _ hT4).mono ?_
          rintro e wz ⟨rfl, hbz⟩
          go_wp2
          go_ret
          exact ⟨rfl, bl_then N.out hbz⟩
        · by_cases hQ : rankF a < rankF b ∧ rankF b < 9223372036854775807 ∨ rankF a = rankF b ∧ rankF b < 9223372036854775807
          · have e1 : betwOk a b = true := by rw [q1]; simp; omega
            have e2 : betwOk b c = false := by rw [q2]; simp; omega
            clear q1 q2 q3 k1 k3 k8 k9 hP hQ
            go_wp2_with fail
            refine (awake_c _ hT4).mono ?_
            rintro e wz ⟨rfl, hbz⟩
            go_wp2
            go_ret
            exact ⟨rfl, bl_then N.out hbz⟩
          · have e1 : betwOk a b = false := by rw [q1]; simp; omega
            clear q1 q2 q3 k1 k3 k8 k9 hP hQ
            go_wp2_with fail
            refine (awake_c _ hT4).mono ?_
            rintro e wz ⟨rfl, hbz⟩
            go_wp2
            go_ret
            exact ⟨rfl, bl_then N.out hbz⟩
end Go.Proofs.YtddleibffkaenaaDoor
