/- What Join answers, bits' and girderref01's. -/
import Derived.Test.YtddleibffkaenaaDoorB6
import Derived.Test.YtddleibffkaenaaDoorS3
namespace Go.Proofs.YtddleibffkaenaaDoor
open Go Go.RowKit GFl
set_option maxRecDepth 100000
attribute [local go_sem] run_f64bits run_f64frombits run_neg_f64

theorem bitLenAux_len : ∀ (f x : Nat), x < 2 ^ f → x ≠ 0 → 1 ≤ Lib.bitLenAux f x ∧ 2 ^ (Lib.bitLenAux f x - 1) ≤ x ∧ x < 2 ^ Lib.bitLenAux f x
  | 0, x, h, h0 => by simp at h; omega
  | f + 1, x, h, h0 => by
    unfold Lib.bitLenAux
    rw [if_neg h0]
    rw [Nat.pow_succ] at h
    by_cases h1 : x / 2 = 0
    · have hx : x = 1 := by omega
      subst hx
      have e : Lib.bitLenAux f 0 = 0 := by cases f <;> simp [Lib.bitLenAux]
      rw [h1, e]; decide
    · obtain ⟨a, b, c⟩ := bitLenAux_len f (x / 2) (by omega) h1
      generalize Lib.bitLenAux f (x / 2) = n at *
      refine ⟨by omega, ?_, ?_⟩
      · have e : 1 + n - 1 = (n - 1) + 1 := by omega
        rw [e, Nat.pow_succ]; omega
      · rw [Nat.add_comm, Nat.pow_succ]; omega
theorem len_of {x : Nat} (h : x < 18446744073709551616) (h0 : x ≠ 0) : Len x (Lib.bitLen x) := by
  obtain ⟨a, b, c⟩ := bitLenAux_len 64 x (by omega) h0
  exact ⟨a, by rw [p2_def]; exact b, by rw [p2_def]; exact c⟩
theorem bitLen_le64 {x : Nat} (h : x < 18446744073709551616) : Lib.bitLen x ≤ 64 := by
  by_cases h0 : x = 0
  · subst h0; decide
  · have l := len_of h h0
    have h1 : p2 (Lib.bitLen x - 1) < p2 64 := Nat.lt_of_le_of_lt l.lo (by rw [p2_def]; omega)
    have := p2_lt h1
    omega

def JoinPost (ng : Bool) (fr : Nat) (ex : Int) (w : World) (e : Ending) (w' : World) : Prop := ∃ z ok, e = .returned (.tuple #[.float .f64 z, .bool ok]) ∧ (ok = true ↔ joinOk fr ex) ∧ (ok = true → IsJoin ng fr ex z) ∧ (ok = false → z = 0) ∧ Below w.heap.size w w'
theorem JoinPost.no {ng : Bool} {fr : Nat} {ex : Int} {w w' : World} (h : ¬ joinOk fr ex) (hb : Below w.heap.size w w') : JoinPost ng fr ex w (.returned (.tuple #[.float .f64 0, .bool false])) w' :=
  ⟨0, false, rfl, by simp [h], by simp, fun _ => rfl, hb⟩
theorem JoinPost.yes {ng : Bool} {fr : Nat} {ex : Int} {z : Nat} {w w' : World} (h : joinOk fr ex) (hj : IsJoin ng fr ex z) (hb : Below w.heap.size w w') : JoinPost ng fr ex w (.returned (.tuple #[.float .f64 z, .bool true])) w' :=
  ⟨z, true, rfl, by simp [h], fun _ => hj, by simp, hb⟩
theorem isJoin_zero (ng : Bool) : IsJoin ng 0 0 (wd ng 0) :=
  ⟨wd_w (by decide), wd_neg (by decide), by rw [wd_rg (by decide)]; decide, by rw [wd_rg (by decide), Nat.zero_mul]; decide⟩

theorem cv_u64 {fr z : Nat} (h : Ieee.double.write (.number false fr 0) = z) : floatOfInt .f64 (fr : Int) = z := by
  unfold floatOfInt FloatKind.nearest FloatKind.encode FloatKind.format
  have h1 : ¬ (fr : Int) < 0 := by omega
  simp only [h1, decide_false, Int.natAbs_natCast]
  exact h
set_option maxHeartbeats 1000000 in
theorem join_c (ng : Bool) (fr : Nat) (ex : Int) (hf : fr < 18446744073709551616) (he1 : -9223372036854775808 ≤ ex) (he2 : ex ≤ 9223372036854775807) (w : World) :
    Calls Tryd.prog 25 #[.agg #[.bool ng, .int .u64 fr, .int .i64 ex]] w (JoinPost ng fr ex w) := by
  by_cases h0 : fr = 0
  · subst h0
    by_cases hx : ex = 0
    · subst hx
      have hz : Lib.bitLen 0 = 0 := by decide
      have c0 : floatOfInt .f64 0 = 0 := by decide
      cases ng
      all_goals
        go_enter Tryd.func25, Tryd.ntmps25
        go_wp2_with (first | (go_at_call 47; refine (len64_c 0 (by decide) _).mono ?_; rw [hz]; rintro e w' ⟨rfl, rfl⟩) | (go_at_call 40; refine (ldexp_00 _ _ (w_const (by decide)) (by decide) _).mono ?_; rintro e w' ⟨rfl, rfl⟩) | (go_at_call 36; refine (copysign_c _ _ (w_const (by decide)) (w_const (by decide)) _).mono ?_; rintro e w' ⟨rfl, rfl⟩))
        go_ret2
        exact JoinPost.yes (.inl ⟨rfl, rfl⟩) (isJoin_zero _) (bl_alloc (Below.refl _ _) _)
    · have hx' : (ex != 0) = true := by simp [hx]
      have hno : ¬ joinOk 0 ex := by rw [joinOk_zero]; exact hx
      have hz : Lib.bitLen 0 = 0 := by decide
      clear hx
      go_enter Tryd.func25, Tryd.ntmps25
      go_wp2_with (first | (go_at_call 47; refine (len64_c 0 (by decide) _).mono ?_; rw [hz]; rintro e w' ⟨rfl, rfl⟩))
      go_ret2
      exact JoinPost.no hno (bl_alloc (Below.refl _ _) _)
  · have k1 : ((fr : Int) == 0) = false := by simp [h0]
    have k2 : ((fr : Int) != 0) = true := by simp [h0]
    have l := len_of hf h0
    have l64 := bitLen_le64 hf
    by_cases hev : fr % 2 = 0
    · have k3 : ((fr : Int) % 2 == 0) = true := by simp; omega
      have hno := joinOk_even (ex := ex) h0 hev
      have H := Lib.hid hno
      clear h0 hev l hno
      go_enter Tryd.func25, Tryd.ntmps25
      go_wp2_with (first | (go_at_call 47; refine (len64_c fr hf _).mono ?_; rintro e w' ⟨rfl, rfl⟩))
      go_ret2
      exact JoinPost.no H.out (bl_alloc (Below.refl _ _) _)
    · have k3 : ((fr : Int) % 2 == 0) = false := by simp; omega
      have hok := joinOk_odd (ex := ex) l (by omega)
      have l53 := l.le53
      have lfit := @Len.fits _ _ ex l
      have lp := l.pos
      obtain ⟨n, hn⟩ : ∃ n, Lib.bitLen fr = n := ⟨_, rfl⟩
      rw [hn] at hok l53 lfit lp l64
      have HN := Lib.hid hn
      clear hn l h0 hev
      by_cases hy : n ≤ 53 ∧ -1074 ≤ ex ∧ ex + n ≤ 1024
      · obtain ⟨y1, y2, y3⟩ := hy
        obtain ⟨c, hc, c1, c2, c3, c4⟩ := ofNat64 (l53.1 y1)
        have hcv := cv_u64 hc
        have hj : ∀ z, IsLd c ex z → IsJoin false fr ex z := fun z h => isJoin_ld c4 c2 (l53.1 y1) y2 ((lfit y2).2 y3) h
        have hpos : 0 < rg c := by
          rcases Nat.eq_zero_or_pos (rg c) with h | h
          · rw [h, show mg B52 0 = 0 from by decide] at c4
            rcases Nat.mul_eq_zero.1 c4.symm with h' | h'
            · subst h'; simp at k1
            · have := p2_pos 1074; omega
          · exact h
        have J := Lib.hid hj
        have OK := Lib.hid (hok.2 ⟨y1, y2, y3⟩)
        clear hok l53 lfit hj c4 hc c2
        cases ng
        all_goals
          go_enter Tryd.func25, Tryd.ntmps25
          go_wp2_with (first | (go_at_call 47; refine (len64_c fr hf _).mono ?_; rw [HN.out]; rintro e w' ⟨rfl, rfl⟩) | (go_at_call 40; refine (ldexp_cc _ _ c1 hpos c3 (by omega) (by omega) _).mono ?_; rintro e w' ⟨z, rfl, hl, ⟨⟨nq, rfl⟩⟩⟩) | (go_at_call 36; refine (copysign_c _ _ (J.out z hl).w (w_const (by decide)) _).mono ?_; rintro e w' ⟨rfl, rfl⟩))
          go_ret2
          first
            | exact JoinPost.yes OK.out (J.out z hl) (bl_drewN (bl_alloc (Below.refl _ _) _) _)
            | exact JoinPost.yes OK.out (isJoin_neg (J.out z hl)) (bl_drewN (bl_alloc (Below.refl _ _) _) _)
      · have H := Lib.hid (mt hok.1 hy)
        clear hok l53 lfit
        go_enter Tryd.func25, Tryd.ntmps25
        go_wp2_with (first | (go_at_call 47; refine (len64_c fr hf _).mono ?_; rw [HN.out]; rintro e w' ⟨rfl, rfl⟩))
        all_goals go_ret2
        all_goals exact JoinPost.no H.out (bl_alloc (Below.refl _ _) _)
/-- On the way: as many bits as there are. -/
structure Up (fr : Nat) (ex : Int) (f : Nat) (e : Int) : Prop where
  pos : 0 < f
  lt : f < 9007199254740992
  lo : -1074 ≤ e
  hi : e ≤ ex
  eq : f * p2 (e + 1074).toNat = fr * p2 (ex + 1074).toNat
theorem Up.next {fr : Nat} {ex : Int} {f : Nat} {e : Int} (h : Up fr ex f e) (h1 : f < 4503599627370496) (h2 : -1074 < e) : Up fr ex (2 * f) (e - 1) := by
  have hp := h.pos
  have hi := h.hi
  refine ⟨by omega, by omega, by omega, by omega, ?_⟩
  rw [← h.eq]
  have e1 : (e + 1074).toNat = 1 + (e - 1 + 1074).toNat := by omega
  have e2 : p2 1 = 2 := by decide +kernel
  rw [e1, p2_add, e2, ← Nat.mul_assoc, Nat.mul_comm 2]
theorem Up.top {fr : Nat} {ex : Int} {f : Nat} {e : Int} (h : Up fr ex f e) (h1 : 4503599627370496 ≤ f) : fr * p2 (ex + 1074).toNat < p2 2098 ↔ e ≤ 971 := by
  have l : Len f 53 := ⟨by decide, by rw [show p2 (53 - 1) = 4503599627370496 from by decide +kernel]; exact h1, by rw [show p2 53 = 9007199254740992 from by decide +kernel]; exact h.lt⟩
  rw [← h.eq, l.fits h.lo]
  omega
theorem Up.bot {fr : Nat} {ex : Int} {f : Nat} (h : Up fr ex f (-1074)) : fr * p2 (ex + 1074).toNat < p2 2098 := by
  rw [← h.eq, show ((-1074 : Int) + 1074).toNat = 0 from rfl, p2_zero, Nat.mul_one]
  refine Nat.lt_of_lt_of_le h.lt ?_
  rw [show (9007199254740992 : Nat) = p2 53 from by decide +kernel]
  exact p2_le (by decide)
theorem Up.join_top {fr : Nat} {ex : Int} {f : Nat} {e : Int} (h : Up fr ex f e) (h1 : 4503599627370496 ≤ f) (h2 : e ≤ 971) (ng : Bool) : IsJoin ng fr ex (wd ng (f - 4503599627370496 + (e + 1075).toNat * 4503599627370496)) := by
  have hl := h.lo
  have hf := h.lt
  have hr : f - 4503599627370496 + (e + 1075).toNat * 4503599627370496 < 9218868437227405312 := by omega
  refine ⟨wd_w (by omega), wd_neg (by omega), by rw [wd_rg (by omega)]; exact hr, ?_⟩
  rw [wd_rg (by omega), ← h.eq]
  have e1 : f - 4503599627370496 + (e + 1075).toNat * 4503599627370496 = (e + 1075).toNat * B52 + (f - 4503599627370496) := by unfold B52; omega
  rw [e1, mg_B _ _ (by omega) (by unfold B52; omega)]
  have a : B52 + (f - 4503599627370496) = f := by unfold B52; omega
  have b : (e + 1075).toNat - 1 = (e + 1074).toNat := by omega
  rw [a, b]
theorem Up.join_bot {fr : Nat} {ex : Int} {f : Nat} (h : Up fr ex f (-1074)) (h1 : f < 4503599627370496) (ng : Bool) : IsJoin ng fr ex (wd ng f) := by
  refine ⟨wd_w (by omega), wd_neg (by omega), by rw [wd_rg (by omega)]; omega, ?_⟩
  rw [wd_rg (by omega), ← h.eq, mg_small (by unfold B52; omega), show ((-1074 : Int) + 1074).toNat = 0 from rfl, p2_zero, Nat.mul_one]
set_option maxHeartbeats 1000000 in
theorem joinR_c (ng : Bool) (fr : Nat) (ex : Int) (hf : fr < 18446744073709551616) (he1 : -9223372036854775808 ≤ ex) (he2 : ex ≤ 9223372036854775807) (w : World) :
    Calls Tryd.prog 26 #[.agg #[.bool ng, .int .u64 fr, .int .i64 ex]] w (JoinPost ng fr ex w) := by
  by_cases h0 : fr = 0
  · subst h0
    by_cases hx : ex = 0
    · subst hx
      cases ng
      all_goals
        go_enter Tryd.func26, Tryd.ntmps26
        go_wp2
        go_quiet (fail)
        go_wp2
        refine wp_loop_rounds 1 ?_
        rw [rounds_succ]
        go_wp2
        go_ret2
        exact JoinPost.yes (.inl ⟨rfl, rfl⟩) (isJoin_zero _) (by repeat' (first | (with_reducible exact Below.refl _ _) | (with_reducible refine bl_alloc ?_ _) | (with_reducible refine bl_drewN ?_ _) | (with_reducible refine bl_drew ?_) | (with_reducible refine bl_set ?_ _ (by simp))))
    · have hx' : (ex != 0) = true := by simp [hx]
      have hno : ¬ joinOk 0 ex := by rw [joinOk_zero]; exact hx
      clear hx
      go_enter Tryd.func26, Tryd.ntmps26
      go_wp2
      all_goals go_ret2
      all_goals exact JoinPost.no hno (bl_alloc (Below.refl _ _) _)
  · obtain ⟨F, hF⟩ : ∃ F : Int, (fr : Int) = F := ⟨_, rfl⟩
    rw [hF]
    have HF := Lib.hid hF
    have k1 : (F == 0) = false := by rw [← hF]; simp [h0]
    have k2 : (F != 0) = true := by rw [← hF]; simp [h0]
    have f1 : 0 ≤ F := by omega
    have f2 : F ≤ 18446744073709551615 := by omega
    by_cases hev : fr % 2 = 0
    · have k3 : (F % 2 == 0) = true := by rw [← hF]; simp; omega
      have hno := joinOk_even (ex := ex) h0 hev
      have H := Lib.hid hno
      clear h0 hev hno hF hf
      go_enter Tryd.func26, Tryd.ntmps26
      go_wp2
      all_goals go_ret2
      all_goals exact JoinPost.no H.out (bl_alloc (Below.refl _ _) _)
    · have k3 : (F % 2 == 0) = false := by rw [← hF]; simp; omega
      have hok : joinOk fr ex ↔ fr < 9007199254740992 ∧ -1074 ≤ ex ∧ fr * p2 (ex + 1074).toNat < p2 2098 := by
        unfold joinOk
        constructor
        · rintro (⟨h, _⟩ | ⟨_, h⟩)
          · exact absurd h h0
          · exact h
        · intro h; exact .inr ⟨by omega, h⟩
      have hex : joinOk fr ex → ex ≤ 1023 := fun h => by
        have l := len_of hf h0
        have := (joinOk_odd (ex := ex) l (by omega)).1 h
        have := l.pos
        omega
      by_cases hpre : F < 9007199254740992 ∧ -1074 ≤ ex ∧ ex ≤ 1023
      · obtain ⟨p1, p2', p3⟩ := hpre
        have st : Up fr ex fr ex := ⟨by omega, by omega, p2', Int.le_refl _, rfl⟩
        have ST := Lib.hid st
        have OK := Lib.hid hok
        have H0 := Lib.hid h0
        clear st hok hex h0 hev hF hf
        go_enter Tryd.func26, Tryd.ntmps26
        go_wp2
        go_quiet (fail)
        go_wp2
        go_loopg [4, 5] 4503599627370496 (fun k v4 v5 wr => ∃ (f e : Int), 0 < f ∧ f < 9007199254740992 ∧ -1074 ≤ e ∧ e ≤ ex ∧ 4503599627370496 - f ≤ k ∧ v4 = .int .u64 f ∧ v5 = .int .i64 e ∧ Hid (Up fr ex f.toNat e) ∧ Below w.heap.size w wr ∧ wr.cell? ⟨w.heap.size, 0, none⟩ = some (.bool ng))
        case atStart =>
          have s := ST.out
          have hF := HF.out
          have h0' := H0.out
          have e : F.toNat = fr := by omega
          refine ⟨F, ex, by omega, p1, p2', Int.le_refl _, by omega, rfl, rfl, ?_, ?_, ?_⟩
          · rw [e]; exact Lib.hid s
          · repeat' (first | (with_reducible exact Below.refl _ _) | (with_reducible refine bl_alloc ?_ _) | (with_reducible refine bl_drewN ?_ _) | (with_reducible refine bl_drew ?_) | (with_reducible refine bl_set ?_ _ (by simp)))
          · go_simp
        case round =>
          obtain ⟨f, e, g1, g2, g3, g4, g5, rfl, rfl, U, hb, hcell⟩ := hrel
          have n0 : (f != 0) = true := by simp; omega
          by_cases hc : f < 4503599627370496 ∧ -1074 < e
          · obtain ⟨c1, c2⟩ := hc
            go_wp2
            go_roundg (gk - 1)
            case measure => omega
            case rel =>
              refine ⟨2 * f, e - 1, by omega, by omega, by omega, by omega, by omega, by first | rfl | (congr 1; omega), rfl, ?_, hb, hcell⟩
              have h := U.out.next (by omega) c2
              have e1 : (2 * f).toNat = 2 * f.toNat := by omega
              rw [e1]; exact Lib.hid h
          · by_cases h971 : 971 < e
            · have no : ¬ joinOk fr ex := fun h => by
                have h2 := (OK.out.1 h).2.2
                rw [U.out.top (by omega)] at h2
                omega
              have NO := Lib.hid no
              clear no
              have c1 : ¬ f < 4503599627370496 := by omega
              clear hc
              go_wp2
              go_ret2
              exact JoinPost.no NO.out hb
            · by_cases c1 : f < 4503599627370496
              · have he : e = -1074 := by omega
                subst he
                have yes : joinOk fr ex := OK.out.2 ⟨by have := HF.out; omega, p2', U.out.bot⟩
                have J := Lib.hid (fun ng => U.out.join_bot (by omega) ng)
                have YES := Lib.hid yes
                clear yes hc
                cases ng
                all_goals
                  go_wp2
                  all_goals go_ret2
                  all_goals refine JoinPost.yes YES.out ?_ hb
                  all_goals refine Eq.mp (congrArg (IsJoin _ fr ex) ?_) (J.out _)
                  all_goals rw [wd_eq]
                  all_goals (simp only [if_true, Bool.false_eq_true, if_false] <;> first | rfl | omega)
              · have t1 : 4503599627370496 ≤ f.toNat := by omega
                have t2 : e ≤ 971 := by omega
                have t3 : fr < 9007199254740992 := by have := HF.out; omega
                have yes : joinOk fr ex := OK.out.2 ⟨t3, p2', (U.out.top t1).2 t2⟩
                have J := Lib.hid (fun ng => U.out.join_top t1 t2 ng)
                clear t1 t2 t3
                have YES := Lib.hid yes
                clear yes hc
                cases ng
                all_goals
                  go_wp2
                  all_goals go_ret2
                  all_goals refine JoinPost.yes YES.out ?_ hb
                  all_goals refine Eq.mp (congrArg (IsJoin _ fr ex) ?_) (J.out _)
                  all_goals rw [wd_eq]
                  all_goals (simp only [if_true, Bool.false_eq_true, if_false] <;> first | rfl | omega)
      · have H := Lib.hid (show ¬ joinOk fr ex from fun h => hpre ⟨by have := (hok.1 h).1; omega, (hok.1 h).2.1, hex h⟩)
        clear hok hex h0 hev hF hf
        go_enter Tryd.func26, Tryd.ntmps26
        go_wp2
        all_goals go_ret2
        all_goals exact JoinPost.no H.out (bl_alloc (Below.refl _ _) _)
end Go.Proofs.YtddleibffkaenaaDoor
