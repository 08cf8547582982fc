/- girderlaw01.BitsBack answers true. -/
import Derived.Test.YtddleibffkaenaaDoorLNf
import Derived.Test.YtddleibffkaenaaDoorLMakes
import Derived.Test.YtddleibffkaenaaDoorS5
import Derived.Test.YtddleibffkaenaaDoorLNumb
import Derived.Deep.DeepCutAuto
import Derived.Deep.LoopGhost
namespace Go.Proofs.YtddleibffkaenaaDoor
open Go Go.RowKit GFl
set_option maxRecDepth 100000
attribute [local go_sem] run_f64bits run_f64frombits run_neg_f64

theorem placeF_nan {x : Nat} (h : isn x = true) : placeF x = 0 := by unfold placeF; rw [h]; rfl
theorem atF_of {p : Int} (h1 : -9218868437227405312 ≤ p) (h2 : p ≤ 9218868437227405312) : atF p = atW p := by
  unfold atF; rw [if_pos]; unfold atOk PI; simp; omega
theorem atOk_t {p : Int} (h1 : -9218868437227405312 ≤ p) (h2 : p ≤ 9218868437227405312) : atOk p = true := by unfold atOk PI; simp; omega
theorem atOk_f {p : Int} (h : p < -9218868437227405312 ∨ 9218868437227405312 < p) : atOk p = false := by unfold atOk PI; simp; omega
theorem atF_no {p : Int} (h : p < -9218868437227405312 ∨ 9218868437227405312 < p) : atF p = 0 := by unfold atF; rw [atOk_f h]; rfl
theorem atW_back {x : Nat} (hx : W64 x) (hn : isn x = false) (h0 : plc x ≠ 0) : atW (plc x) = x := by
  have hb := plc_bd hn
  have e := w64_wd hx
  unfold atW
  rw [plc_natAbs, show decide (plc x < 0) = neg x from ?_]
  · exact e.symm
  · rw [plc_eq] at h0 ⊢
    cases hs : neg x <;> rw [hs] at h0 <;> simp at h0 ⊢; omega

theorem jn_made {ng : Bool} {fr : Nat} {ex : Int} {z : Nat} (ho : joinOk fr ex) (h : IsJoin ng fr ex z) : finF z = true ∧ spN z = ng ∧ spF z = fr ∧ spE z = ex := by
  refine ⟨finF_t h.f, (spN_t h.f).trans h.s, ?_⟩
  rcases ho with ⟨rfl, rfl⟩ | ⟨h1, h2, h3, h4⟩
  · have hm := h.m
    rw [Nat.zero_mul] at hm
    have h0 : rg z = 0 := by have := le_mg B52 (rg z) B52_pos; omega
    exact sp_no (by omega)
  · have hp : 0 < rg z := by
      rcases Nat.eq_zero_or_pos (rg z) with h0 | h0
      · exfalso
        have hm := h.m
        rw [h0, mg_zero _ B52_pos] at hm
        rcases Nat.mul_eq_zero.1 hm.symm with h5 | h5
        · omega
        · have := p2_pos (ex + 1074).toNat; omega
      · exact h0
    exact sp_of hp h.f ⟨h1, h3, h.m.symm⟩

set_option maxHeartbeats 8000000 in
theorem bitsBack_c (x : Nat) (hx : W64 x) (place : Int) (hp1 : -9223372036854775808 ≤ place) (hp2 : place ≤ 9223372036854775807) (ng : Bool) (fr : Nat) (ex : Int) (hf : fr < 18446744073709551616) (he1 : -9223372036854775808 ≤ ex) (he2 : ex ≤ 9223372036854775807) (w : World) (hT : Tab w) :
    Calls Tryd.prog 6 #[.float .f64 x, .int .i64 place, .agg #[.bool ng, .int .u64 fr, .int .i64 ex]] w fun e w' => e = .returned (.bool true) ∧ Below w.heap.size w w' := by
  have hpb : -9218868437227405312 ≤ placeF x ∧ placeF x ≤ 9218868437227405312 := by
    unfold placeF
    cases hn : isn x
    · exact plc_bd hn
    · simp
  have aw := atF_w (p := placeF x)
  have av := atF_w (p := place)
  have a0 : atOk (placeF x) = true := atOk_t hpb.1 hpb.2
  go_enter Tryd.func6, Tryd.ntmps6
  go_upto_region 3 with (first | (go_at_call 12; refine (place_c _ hx _).mono ?_; rintro e w' ⟨rfl, hw⟩; obtain rfl := hw.symm) | (go_at_call 27; refine (at_c _ (by omega) (by omega) _).mono ?_; rintro e w' ⟨rfl, hw⟩; obtain rfl := hw.symm))
  go_cut [5, 8, 9, 70] (fun v5 _ _ v70 wx => v5 = .pointer (some ⟨w.heap.size, 0, none⟩) ∧ v70 = .bool false ∧ w.alloc (Obj.cells #[Value.bool ng, Value.int IntKind.u64 fr, Value.int IntKind.i64 ex] 25) = wx)
  case first =>
    cases hn : isn x with
    | true =>
      have k0 : (FloatKind.f64.format.order x x == some .eq) = false := by rw [t_eq_self hx, hn]; rfl
      go_wp2
      go_meet
      exact ⟨rfl, rfl, rfl⟩
    | false =>
      have k0 : (FloatKind.f64.format.order x x == some .eq) = true := by rw [t_eq_self hx, hn]; rfl
      by_cases h0 : plc x = 0
      · have e : atF (placeF x) = 0 := by rw [placeF_f hn, h0]; decide
        have k1 : (FloatKind.f64.format.order x 0 != some .eq) = false := by rw [t_ne hx (w_const (by decide)), hn, h0]; decide
        have k2 : (FloatKind.f64.format.order x 0 == some .eq) = true := by rw [t_eq hx (w_const (by decide)), hn, h0]; decide
        have s0 : sameF 0 0 = true := by decide
        clear h0
        rw [e]
        go_wp2_with (go_at_call 16; refine (sameFloat_c 0 0 (w_const (by decide)) (w_const (by decide)) _).mono ?_; rw [s0]; rintro e w' ⟨rfl, hw⟩; obtain rfl := hw.symm)
        go_meet
        exact ⟨rfl, rfl, rfl⟩
      · have e : atF (placeF x) = x := by rw [atF_of hpb.1 hpb.2, placeF_f hn, atW_back hx hn h0]
        have k1 : (FloatKind.f64.format.order x x != some .eq) = false := by rw [t_ne_self hx, hn]
        have k3 : (FloatKind.f64.format.order x 0 != some .eq) = true := by rw [t_ne hx (w_const (by decide)), hn, show plc 0 = 0 by decide]; simp [h0]
        have k2 : (FloatKind.f64.format.order x 0 == some .eq) = false := by rw [t_eq hx (w_const (by decide)), hn, show plc 0 = 0 by decide]; simp [h0]
        have s0 : sameF x x = true := sameF_refl x
        clear h0
        rw [e]
        go_wp2_with (go_at_call 16; refine (sameFloat_c x x hx hx _).mono ?_; rw [s0]; rintro e w' ⟨rfl, hw⟩; obtain rfl := hw.symm)
        go_meet
        exact ⟨rfl, rfl, rfl⟩
  case rest =>
    obtain ⟨rfl, rfl, rfl⟩ := hcut
    clear aw a0 hpb
    go_upto_region 7 with (first | (go_at_call 12; refine (place_c _ av _).mono ?_; rintro e w' ⟨rfl, hw⟩; obtain rfl := hw.symm) | (go_at_call 27; refine (at_c _ (by omega) (by omega) _).mono ?_; rintro e w' ⟨rfl, hw⟩; obtain rfl := hw.symm))
    go_cut [5, 11, 12, 13, 14, 107] (fun v5 _ _ _ _ v107 wx => v5 = .pointer (some ⟨w.heap.size, 0, none⟩) ∧ v107 = .bool false ∧ w.alloc (Obj.cells #[Value.bool ng, Value.int IntKind.u64 fr, Value.int IntKind.i64 ex] 25) = wx)
    case first =>
      have s0 : sameF 0 0 = true := by decide
      by_cases hlo : place < -9218868437227405312
      · have e1 : atF place = 0 := atF_no (.inl hlo)
        have e2 : atOk place = false := atOk_f (.inl hlo)
        have h1 : ¬ -9218868437227405312 ≤ place := by omega
        clear hlo
        rw [e1]
        go_wp2_with (go_at_call 16; refine (sameFloat_c 0 0 (w_const (by decide)) (w_const (by decide)) _).mono ?_; rw [s0]; rintro e w' ⟨rfl, hw⟩; obtain rfl := hw.symm)
        go_meet
        exact ⟨rfl, rfl, rfl⟩
      · by_cases hhi : 9218868437227405312 < place
        · have e1 : atF place = 0 := atF_no (.inr hhi)
          have e2 : atOk place = false := atOk_f (.inr hhi)
          have h1 : -9218868437227405312 ≤ place := by omega
          have h2 : ¬ place ≤ 9218868437227405312 := by omega
          clear hhi hlo
          rw [e1]
          go_wp2_with (go_at_call 16; refine (sameFloat_c 0 0 (w_const (by decide)) (w_const (by decide)) _).mono ?_; rw [s0]; rintro e w' ⟨rfl, hw⟩; obtain rfl := hw.symm)
          go_meet
          exact ⟨rfl, rfl, rfl⟩
        · have e2 : atOk place = true := atOk_t (by omega) (by omega)
          have e3 : isn (atF place) = false := by rw [atF_of (by omega) (by omega)]; exact atW_isn (by omega) (by omega)
          have e4 : placeF (atF place) = place := by rw [placeF_f e3, atF_of (by omega) (by omega), atW_plc (by omega) (by omega)]
          go_wp2_with (fail)
          go_meet
          exact ⟨rfl, rfl, rfl⟩
    case rest =>
      obtain ⟨rfl, rfl, rfl⟩ := hcut
      clear av
      rcases Nat.lt_or_ge (rg x) 9218868437227405312 with hfin | hfin
      · have f1 := finF_t hfin
        go_wp2_with fail
        rcases Nat.eq_zero_or_pos (rg x) with h0 | h0
        · as_aux_lemma =>
          obtain ⟨g2, g3⟩ := sp_no (x := x) (by omega)
          have g1 := spN_t hfin
          have hj : IsJoin (neg x) 0 0 x := ⟨hx, rfl, hfin, by rw [h0, mg_zero _ B52_pos, Nat.zero_mul]⟩
          have ho : joinOk 0 0 := .inl ⟨rfl, rfl⟩
          have p0 : plc x = 0 := plc_zero.2 h0
          have nn : isn x = false := isn_of (Nat.le_of_lt hfin)
          refine (split_any x hx _ (hT.below (bl_alloc (Below.refl _ _) _))).mono ?_
          rintro e w1 h1
          unfold SpPost at h1
          rw [g1, g2, g3, f1] at h1
          obtain ⟨rfl, hb1⟩ := h1
          have pO := blk_new hb1
          have bb1 := bl_then (bl_alloc (Below.refl _ _) _) hb1
          clear hb1
          go_wp2_with (go_at_call 23; refine (finite_c _ hx _).mono ?_; rw [f1]; rintro e w' ⟨rfl, ⟨⟨nq, rfl⟩⟩⟩)
          refine (join_t (neg x) 0 0 x hj ho (by omega) (by omega) (by omega) _).mono ?_
          rintro e w2 ⟨rfl, hb2⟩
          have pO2 : w2.heap[w.heap.size]? = some (Obj.cells #[Value.bool ng, Value.int IntKind.u64 fr, Value.int IntKind.i64 ex] 25) := blk_keep hb2 (blk_alloc pO)
          have pQ2 : w2.heap[w1.heap.size]? = some (Obj.cells #[Value.bool (neg x), Value.int IntKind.u64 0, Value.int IntKind.i64 0] 25) := blk_keep hb2 (Array.getElem?_push_size)
          have bb2 := bl_then (bl_drewN (bl_alloc bb1 _) _) hb2
          clear hb2 bb1 pO
          have q0 := blk_cell (i := 0) pQ2 rfl
          have q1 := blk_cell (i := 1) pQ2 rfl
          have q2 := blk_cell (i := 2) pQ2 rfl
          have cz : floatOfInt FloatKind.f64 0 = 0 := by decide +kernel
          go_wp2_with fail
          refine wp_loop_rounds 1 ?_
          rw [rounds_succ]
          go_wp2
          refine wp_loop_rounds 1 ?_
          rw [rounds_succ]
          go_wp2
          have s1 : sameF x x = true := sameF_refl x
          have k0 : (FloatKind.f64.format.order x 0 != some .eq) = false := by rw [t_ne hx (w_const (by decide)), nn, p0]; decide
          have k1 : (FloatKind.f64.format.order 0 x != some .eq) = false := by rw [t_ne (w_const (by decide)) hx, nn, p0]; decide
          have sq : ∀ w, Calls Tryd.prog 16 #[.float .f64 x, .float .f64 x] w fun e w' => e = .returned (.bool true) ∧ w' = w := fun w => by have h := sameFloat_c x x hx hx w; rw [s1] at h; exact h
          have gq : ∀ w, Calls Tryd.prog 29 #[.float .f64 x] w fun e w' => e = .returned (.bool (neg x)) ∧ w' = w := fun w => signbit_c x hx w
          clear p0 nn h0
          go_upto_region 22 with (fail)
          go_quiet ((first | (go_at_call 16; exact Calls.quiet_of_same (sq _)) | (go_at_call 29; exact Calls.quiet_of_same (gq _))))
          have c0 : ∀ n, (w2.drewN n).cell? ⟨w.heap.size, 0, none⟩ = some (.bool ng) := fun n => blk_cell (w := w2) pO2 rfl
          have c1 : ∀ n, (w2.drewN n).cell? ⟨w.heap.size, 1, none⟩ = some (.int .u64 fr) := fun n => blk_cell (w := w2) pO2 rfl
          have c2 : ∀ n, (w2.drewN n).cell? ⟨w.heap.size, 2, none⟩ = some (.int .i64 ex) := fun n => blk_cell (w := w2) pO2 rfl
          go_wp2_with fail
          refine (join_any ng fr ex hf he1 he2 _).mono ?_
          rintro e w4 ⟨rfl, hz, hj', hj0', hb4⟩
          have pO4 : w4.heap[w.heap.size]? = some (Obj.cells #[Value.bool ng, Value.int IntKind.u64 fr, Value.int IntKind.i64 ex] 25) := blk_keep hb4 pO2
          have bb4 := bl_then (bl_drewN bb2 _) hb4
          have hT4 := hT.below bb4
          have BB4 := Lib.hid bb4
          clear hb4 bb4 c0 c1 c2
          go_wp2_with fail
          refine (split_any (jnW ng fr ex) hz _ hT4).mono ?_
          rintro e w5 h5
          unfold SpPost at h5
          by_cases ho' : joinOk fr ex
          · obtain ⟨m1, m2, m3, m4⟩ := jn_made ho' (hj' ho')
            have mo : jnO fr ex = true := jnO_iff.2 ho'
            rw [m1, m2, m3, m4] at h5
            obtain ⟨rfl, hb5⟩ := h5
            have pO5 := blk_keep hb5 pO4
            have bb5 := bl_then BB4.out hb5
            have hT5 : ∀ o, Tab (w5.alloc o) := fun o => hT.below (bl_alloc bb5 o)
            have BB5 := Lib.hid bb5
            have d0 : ∀ o, (w5.alloc o).cell? ⟨w.heap.size, 0, none⟩ = some (.bool ng) := fun o => blk_cell (w := w5.alloc o) (blk_alloc pO5) rfl
            have d1 : ∀ o, (w5.alloc o).cell? ⟨w.heap.size, 1, none⟩ = some (.int .u64 fr) := fun o => blk_cell (w := w5.alloc o) (blk_alloc pO5) rfl
            have d2 : ∀ o, (w5.alloc o).cell? ⟨w.heap.size, 2, none⟩ = some (.int .i64 ex) := fun o => blk_cell (w := w5.alloc o) (blk_alloc pO5) rfl
            clear bb5 hb5 pO5 pO4 hj' hj0' ho' hz hT4 m1 m2 m3 m4
            go_wp2_with fail
            refine (awake_c _ (hT5 _)).mono ?_
            rintro e wz ⟨rfl, hbz⟩
            go_wp2
            go_ret
            exact ⟨rfl, bl_then (bl_alloc BB5.out _) hbz⟩
          · have mo : jnO fr ex = false := Bool.eq_false_iff.2 (fun h => ho' (jnO_iff.1 h))
            have m1 : jnW ng fr ex = 0 := hj0' ho'
            have s0 : sameF 0 0 = true := by decide
            obtain ⟨rfl, hb5⟩ := h5
            have bb5 := bl_then BB4.out hb5
            have hT5 : ∀ o, Tab (w5.alloc o) := fun o => hT.below (bl_alloc bb5 o)
            have BB5 := Lib.hid bb5
            clear bb5 hb5 pO4 hj' hj0' ho' hz hT4
            rw [m1]
            go_wp2_with (go_at_call 16; refine (sameFloat_c 0 0 (w_const (by decide)) (w_const (by decide)) _).mono ?_; rw [s0]; rintro e w' ⟨rfl, hw⟩; obtain rfl := hw.symm)
            refine (awake_c _ (hT5 _)).mono ?_
            rintro e wz ⟨rfl, hbz⟩
            go_wp2
            go_ret
            exact ⟨rfl, bl_then (bl_alloc BB5.out _) hbz⟩
        refine (split_yes x hx h0 hfin _ (hT.below (bl_alloc (Below.refl _ _) _))).mono ?_
        rintro e w1 ⟨F, E, rfl, hs, hF, hE, hb1⟩
        have pO := blk_new hb1
        have bb1 := bl_then (bl_alloc (Below.refl _ _) _) hb1
        clear hb1
        have hlo := hs.lo
        have hm := hs.eq
        have ho : joinOk F E := .inr ⟨hs.odd, hF, hs.lo, by rw [hm]; exact Nat.lt_of_lt_of_eq (mg_strict B52_pos hfin) (by rw [mgINF, show B52 = p2 52 by decide +kernel, ← p2_add])⟩
        have hj : IsJoin (neg x) F E x := ⟨hx, rfl, hfin, hm.symm⟩
        obtain ⟨c, hc, hst⟩ := Stp.start (ex := E) hF
        have hcv := cv_u64 hc
        clear hc
        have ST := Lib.hid hst
        have HM := Lib.hid hm
        have HO := Lib.hid hs.odd
        clear hst hm hs
        go_wp2_with (go_at_call 23; refine (finite_c _ hx _).mono ?_; rw [f1]; rintro e w' ⟨rfl, ⟨⟨nq, rfl⟩⟩⟩)
        refine (join_t (neg x) F E x hj ho (by omega) (by omega) (by omega) _).mono ?_
        rintro e w2 ⟨rfl, hb2⟩
        have pO2 : w2.heap[w.heap.size]? = some (Obj.cells #[Value.bool ng, Value.int IntKind.u64 fr, Value.int IntKind.i64 ex] 25) := blk_keep hb2 (blk_alloc pO)
        have pQ2 : w2.heap[w1.heap.size]? = some (Obj.cells #[Value.bool (neg x), Value.int IntKind.u64 F, Value.int IntKind.i64 E] 25) := blk_keep hb2 (Array.getElem?_push_size)
        have bb2 := bl_then (bl_drewN (bl_alloc bb1 _) _) hb2
        clear hb2 bb1 pO
        have q0 := blk_cell (i := 0) pQ2 rfl
        have q1 := blk_cell (i := 1) pQ2 rfl
        have q2 := blk_cell (i := 2) pQ2 rfl
        go_wp2_with fail
        go_loopg [19, 20] E.toNat (fun k v19 v20 wr => ∃ (t : Nat) (e : Int), v19 = .float .f64 t ∧ v20 = .int .i64 e ∧ Hid (Stp F E t e) ∧ (e = E ∨ 0 ≤ e) ∧ e ≤ E ∧ e.toNat ≤ k ∧ w2 = wr)
        case atStart => exact ⟨c, E, rfl, rfl, ST, .inl rfl, Int.le_refl _, Nat.le_refl _, rfl⟩
        case round =>
          obtain ⟨t, e, rfl, rfl, U, g1, g2, g3, rfl⟩ := hrel
          by_cases hpos : 0 < e
          · obtain ⟨t', ht, U'⟩ := U.out.down hF hpos g2 hfin HM.out
            have D : ∀ w, (Go.binOp .mul 22 (.float .f64 t) (.float .f64 4611686018427387904)).run Tryd.prog w = .ok (.float .f64 t') w := fun w => run_float_arith w .mul 22 .f64 _ _ _ ht
            have UH := Lib.hid U'
            clear ht U'
            go_wp2
            go_roundg (gk - 1)
            case measure => omega
            case rel => exact ⟨t', e - 1, rfl, by first | rfl | (congr 1; omega), UH, by omega, by omega, by omega, rfl⟩
          · go_wp2
            go_loopg [19, 20] (-e).toNat (fun k v19 v20 wr => ∃ (t : Nat) (e : Int), v19 = .float .f64 t ∧ v20 = .int .i64 e ∧ Hid (Stp F E t e) ∧ (e = 0 ∨ E ≤ e) ∧ e ≤ 0 ∧ -1074 ≤ e ∧ (-e).toNat ≤ k ∧ w2 = wr)
            case atStart => exact ⟨t, e, rfl, rfl, U, by omega, by omega, by omega, Nat.le_refl _, rfl⟩
            case round =>
              obtain ⟨t, e, rfl, rfl, U, g1, g2, g3, g4, rfl⟩ := hrel
              by_cases hneg : e < 0
              · obtain ⟨t', ht, U'⟩ := U.out.up hF hneg (by omega) hlo
                have D : ∀ w, (Go.binOp .quo 22 (.float .f64 t) (.float .f64 4611686018427387904)).run Tryd.prog w = .ok (.float .f64 t') w := fun w => run_float_arith w .quo 22 .f64 _ _ _ ht
                have UH := Lib.hid U'
                have g5 : -2000 < e := by omega
                clear ht U'
                go_wp2
                go_roundg (gk - 1)
                case measure => omega
                case rel => exact ⟨t', e + 1, rfl, by first | rfl | (congr 1; omega), UH, by omega, by omega, by omega, by omega, rfl⟩
              · have e0 : e = 0 := by omega
                subst e0
                have rs := U.out.fin HM.out
                go_upto_region 22 with (fail)
                have s1 : sameF x x = true := sameF_refl x
                have o1 : ((F : Int) % 2 == 0) = false := by have := HO.out; simp; omega
                have tw := U.out.w
                have tn := U.out.n
                cases hs : neg x with
                | false =>
                  obtain rfl : t = x := w64_ext tw hx (tn.trans hs.symm) rs
                  have k0 : (FloatKind.f64.format.order t t != some .eq) = false := by rw [t_ne_self hx]; exact isn_of (Nat.le_of_lt hfin)
                  have sq : ∀ w, Calls Tryd.prog 16 #[.float .f64 t, .float .f64 t] w fun e w' => e = .returned (.bool true) ∧ w' = w := fun w => by have h := sameFloat_c t t hx hx w; rw [s1] at h; exact h
                  have gq : ∀ w, Calls Tryd.prog 29 #[.float .f64 t] w fun e w' => e = .returned (.bool false) ∧ w' = w := fun w => by have h := signbit_c t hx w; rw [hs] at h; exact h
                  rw [hs] at q0
                  go_quiet ((first | (go_at_call 16; exact Calls.quiet_of_same (sq _)) | (go_at_call 29; exact Calls.quiet_of_same (gq _))))
                  have c0 : ∀ n, (w2.drewN n).cell? ⟨w.heap.size, 0, none⟩ = some (.bool ng) := fun n => blk_cell (w := w2) pO2 rfl
                  have c1 : ∀ n, (w2.drewN n).cell? ⟨w.heap.size, 1, none⟩ = some (.int .u64 fr) := fun n => blk_cell (w := w2) pO2 rfl
                  have c2 : ∀ n, (w2.drewN n).cell? ⟨w.heap.size, 2, none⟩ = some (.int .i64 ex) := fun n => blk_cell (w := w2) pO2 rfl
                  go_wp2_with fail
                  refine (join_any ng fr ex hf he1 he2 _).mono ?_
                  rintro e w4 ⟨rfl, hz, hj', hj0', hb4⟩
                  have pO4 : w4.heap[w.heap.size]? = some (Obj.cells #[Value.bool ng, Value.int IntKind.u64 fr, Value.int IntKind.i64 ex] 25) := blk_keep hb4 pO2
                  have bb4 := bl_then (bl_drewN bb2 _) hb4
                  have hT4 := hT.below bb4
                  have BB4 := Lib.hid bb4
                  clear hb4 bb4 c0 c1 c2
                  go_wp2_with fail
                  refine (split_any (jnW ng fr ex) hz _ hT4).mono ?_
                  rintro e w5 h5
                  unfold SpPost at h5
                  by_cases ho' : joinOk fr ex
                  · obtain ⟨m1, m2, m3, m4⟩ := jn_made ho' (hj' ho')
                    have mo : jnO fr ex = true := jnO_iff.2 ho'
                    rw [m1, m2, m3, m4] at h5
                    obtain ⟨rfl, hb5⟩ := h5
                    have pO5 := blk_keep hb5 pO4
                    have bb5 := bl_then BB4.out hb5
                    have hT5 : ∀ o, Tab (w5.alloc o) := fun o => hT.below (bl_alloc bb5 o)
                    have BB5 := Lib.hid bb5
                    have d0 : ∀ o, (w5.alloc o).cell? ⟨w.heap.size, 0, none⟩ = some (.bool ng) := fun o => blk_cell (w := w5.alloc o) (blk_alloc pO5) rfl
                    have d1 : ∀ o, (w5.alloc o).cell? ⟨w.heap.size, 1, none⟩ = some (.int .u64 fr) := fun o => blk_cell (w := w5.alloc o) (blk_alloc pO5) rfl
                    have d2 : ∀ o, (w5.alloc o).cell? ⟨w.heap.size, 2, none⟩ = some (.int .i64 ex) := fun o => blk_cell (w := w5.alloc o) (blk_alloc pO5) rfl
                    clear bb5 hb5 pO5 pO4 hj' hj0' ho' hz hT4 m1 m2 m3 m4
                    go_wp2_with fail
                    refine (awake_c _ (hT5 _)).mono ?_
                    rintro e wz ⟨rfl, hbz⟩
                    go_wp2
                    go_ret
                    exact ⟨rfl, bl_then (bl_alloc BB5.out _) hbz⟩
                  · have mo : jnO fr ex = false := Bool.eq_false_iff.2 (fun h => ho' (jnO_iff.1 h))
                    have m1 : jnW ng fr ex = 0 := hj0' ho'
                    have s0 : sameF 0 0 = true := by decide
                    obtain ⟨rfl, hb5⟩ := h5
                    have bb5 := bl_then BB4.out hb5
                    have hT5 : ∀ o, Tab (w5.alloc o) := fun o => hT.below (bl_alloc bb5 o)
                    have BB5 := Lib.hid bb5
                    clear bb5 hb5 pO4 hj' hj0' ho' hz hT4
                    rw [m1]
                    go_wp2_with (go_at_call 16; refine (sameFloat_c 0 0 (w_const (by decide)) (w_const (by decide)) _).mono ?_; rw [s0]; rintro e w' ⟨rfl, hw⟩; obtain rfl := hw.symm)
                    refine (awake_c _ (hT5 _)).mono ?_
                    rintro e wz ⟨rfl, hbz⟩
                    go_wp2
                    go_ret
                    exact ⟨rfl, bl_then (bl_alloc BB5.out _) hbz⟩
                | true =>
                  have rb : rg t = rg x := rs
                  have tx : t = fneg x := w64_ext tw (fneg_w hx) (by rw [tn, fneg_neg hx, hs]; rfl) (by rw [rb, fneg_rg hx])
                  have pne : plc t ≠ plc x := by
                    rw [plc_eq, plc_eq, tn, hs, rb]; simp; omega
                  have k0 : (FloatKind.f64.format.order t x != some .eq) = true := by rw [t_ne tw hx]; simp [pne]
                  have k1 : (FloatKind.f64.format.order t (fneg x) != some .eq) = false := by rw [← tx, t_ne_self tw]; exact isn_of (by rw [rb]; exact Nat.le_of_lt hfin)
                  have sq : ∀ w, Calls Tryd.prog 16 #[.float .f64 x, .float .f64 x] w fun e w' => e = .returned (.bool true) ∧ w' = w := fun w => by have h := sameFloat_c x x hx hx w; rw [s1] at h; exact h
                  have gq : ∀ w, Calls Tryd.prog 29 #[.float .f64 x] w fun e w' => e = .returned (.bool true) ∧ w' = w := fun w => by have h := signbit_c x hx w; rw [hs] at h; exact h
                  rw [hs] at q0
                  clear tx pne rb
                  go_quiet ((first | (go_at_call 16; exact Calls.quiet_of_same (sq _)) | (go_at_call 29; exact Calls.quiet_of_same (gq _))))
                  have c0 : ∀ n, (w2.drewN n).cell? ⟨w.heap.size, 0, none⟩ = some (.bool ng) := fun n => blk_cell (w := w2) pO2 rfl
                  have c1 : ∀ n, (w2.drewN n).cell? ⟨w.heap.size, 1, none⟩ = some (.int .u64 fr) := fun n => blk_cell (w := w2) pO2 rfl
                  have c2 : ∀ n, (w2.drewN n).cell? ⟨w.heap.size, 2, none⟩ = some (.int .i64 ex) := fun n => blk_cell (w := w2) pO2 rfl
                  go_wp2_with fail
                  refine (join_any ng fr ex hf he1 he2 _).mono ?_
                  rintro e w4 ⟨rfl, hz, hj', hj0', hb4⟩
                  have pO4 : w4.heap[w.heap.size]? = some (Obj.cells #[Value.bool ng, Value.int IntKind.u64 fr, Value.int IntKind.i64 ex] 25) := blk_keep hb4 pO2
                  have bb4 := bl_then (bl_drewN bb2 _) hb4
                  have hT4 := hT.below bb4
                  have BB4 := Lib.hid bb4
                  clear hb4 bb4 c0 c1 c2
                  go_wp2_with fail
                  refine (split_any (jnW ng fr ex) hz _ hT4).mono ?_
                  rintro e w5 h5
                  unfold SpPost at h5
                  by_cases ho' : joinOk fr ex
                  · obtain ⟨m1, m2, m3, m4⟩ := jn_made ho' (hj' ho')
                    have mo : jnO fr ex = true := jnO_iff.2 ho'
                    rw [m1, m2, m3, m4] at h5
                    obtain ⟨rfl, hb5⟩ := h5
                    have pO5 := blk_keep hb5 pO4
                    have bb5 := bl_then BB4.out hb5
                    have hT5 : ∀ o, Tab (w5.alloc o) := fun o => hT.below (bl_alloc bb5 o)
                    have BB5 := Lib.hid bb5
                    have d0 : ∀ o, (w5.alloc o).cell? ⟨w.heap.size, 0, none⟩ = some (.bool ng) := fun o => blk_cell (w := w5.alloc o) (blk_alloc pO5) rfl
                    have d1 : ∀ o, (w5.alloc o).cell? ⟨w.heap.size, 1, none⟩ = some (.int .u64 fr) := fun o => blk_cell (w := w5.alloc o) (blk_alloc pO5) rfl
                    have d2 : ∀ o, (w5.alloc o).cell? ⟨w.heap.size, 2, none⟩ = some (.int .i64 ex) := fun o => blk_cell (w := w5.alloc o) (blk_alloc pO5) rfl
                    clear bb5 hb5 pO5 pO4 hj' hj0' ho' hz hT4 m1 m2 m3 m4
                    go_wp2_with fail
                    refine (awake_c _ (hT5 _)).mono ?_
                    rintro e wz ⟨rfl, hbz⟩
                    go_wp2
                    go_ret
                    exact ⟨rfl, bl_then (bl_alloc BB5.out _) hbz⟩
                  · have mo : jnO fr ex = false := Bool.eq_false_iff.2 (fun h => ho' (jnO_iff.1 h))
                    have m1 : jnW ng fr ex = 0 := hj0' ho'
                    have s0 : sameF 0 0 = true := by decide
                    obtain ⟨rfl, hb5⟩ := h5
                    have bb5 := bl_then BB4.out hb5
                    have hT5 : ∀ o, Tab (w5.alloc o) := fun o => hT.below (bl_alloc bb5 o)
                    have BB5 := Lib.hid bb5
                    clear bb5 hb5 pO4 hj' hj0' ho' hz hT4
                    rw [m1]
                    go_wp2_with (go_at_call 16; refine (sameFloat_c 0 0 (w_const (by decide)) (w_const (by decide)) _).mono ?_; rw [s0]; rintro e w' ⟨rfl, hw⟩; obtain rfl := hw.symm)
                    refine (awake_c _ (hT5 _)).mono ?_
                    rintro e wz ⟨rfl, hbz⟩
                    go_wp2
                    go_ret
                    exact ⟨rfl, bl_then (bl_alloc BB5.out _) hbz⟩
      · as_aux_lemma =>
        have f1 := finF_f hfin
        have g0 := sp_no (x := x) (by omega)
        have g1 := spN_f hfin
        obtain ⟨g2, g3⟩ := g0
        clear hfin
        go_wp2_with fail
        refine (split_any x hx _ (hT.below (bl_alloc (Below.refl _ _) _))).mono ?_
        rintro e w1 h1
        unfold SpPost at h1
        rw [g1, g2, g3, f1] at h1
        obtain ⟨rfl, hb1⟩ := h1
        have pO := blk_new hb1
        have bb1 := bl_then (bl_alloc (Below.refl _ _) _) hb1
        clear hb1
        have c0 : ∀ o n, ((w1.alloc o).drewN n).cell? ⟨w.heap.size, 0, none⟩ = some (.bool ng) := fun o n => blk_cell (w := w1.alloc o) (blk_alloc pO) rfl
        have c1 : ∀ o n, ((w1.alloc o).drewN n).cell? ⟨w.heap.size, 1, none⟩ = some (.int .u64 fr) := fun o n => blk_cell (w := w1.alloc o) (blk_alloc pO) rfl
        have c2 : ∀ o n, ((w1.alloc o).drewN n).cell? ⟨w.heap.size, 2, none⟩ = some (.int .i64 ex) := fun o n => blk_cell (w := w1.alloc o) (blk_alloc pO) rfl
        go_wp2_with (go_at_call 23; refine (finite_c _ hx _).mono ?_; rw [f1]; rintro e w' ⟨rfl, ⟨⟨nq, rfl⟩⟩⟩)
        refine (join_any ng fr ex hf he1 he2 _).mono ?_
        rintro e w2 ⟨rfl, hz, hj, hj0, hb2⟩
        have pO2 : w2.heap[w.heap.size]? = some (Obj.cells #[Value.bool ng, Value.int IntKind.u64 fr, Value.int IntKind.i64 ex] 25) := blk_keep hb2 (blk_alloc pO)
        have bb2 := bl_then (bl_drewN (bl_alloc bb1 _) _) hb2
        clear hb2 c0 c1 c2
        have hT2 := hT.below bb2
        have BB2 := Lib.hid bb2
        clear bb2 bb1 pO
        go_wp2_with fail
        refine (split_any (jnW ng fr ex) hz _ hT2).mono ?_
        rintro e w3 h3
        unfold SpPost at h3
        by_cases ho : joinOk fr ex
        · obtain ⟨m1, m2, m3, m4⟩ := jn_made ho (hj ho)
          have mo : jnO fr ex = true := jnO_iff.2 ho
          rw [m1, m2, m3, m4] at h3
          obtain ⟨rfl, hb3⟩ := h3
          have pO3 := blk_keep hb3 pO2
          have bb3 := bl_then BB2.out hb3
          have hT3 : ∀ o, Tab (w3.alloc o) := fun o => hT.below (bl_alloc bb3 o)
          have BB3 := Lib.hid bb3
          have d0 : ∀ o, (w3.alloc o).cell? ⟨w.heap.size, 0, none⟩ = some (.bool ng) := fun o => blk_cell (w := w3.alloc o) (blk_alloc pO3) rfl
          have d1 : ∀ o, (w3.alloc o).cell? ⟨w.heap.size, 1, none⟩ = some (.int .u64 fr) := fun o => blk_cell (w := w3.alloc o) (blk_alloc pO3) rfl
          have d2 : ∀ o, (w3.alloc o).cell? ⟨w.heap.size, 2, none⟩ = some (.int .i64 ex) := fun o => blk_cell (w := w3.alloc o) (blk_alloc pO3) rfl
          clear bb3 hb3 pO3 pO2 hj hj0 ho hz hT2 m1 m2 m3 m4
          go_wp2_with fail
          refine (awake_c _ (hT3 _)).mono ?_
          rintro e wz ⟨rfl, hbz⟩
          go_wp2
          go_ret
          exact ⟨rfl, bl_then (bl_alloc BB3.out _) hbz⟩
        · have mo : jnO fr ex = false := Bool.eq_false_iff.2 (fun h => ho (jnO_iff.1 h))
          have m1 : jnW ng fr ex = 0 := hj0 ho
          have s0 : sameF 0 0 = true := by decide
          obtain ⟨rfl, hb3⟩ := h3
          have bb3 := bl_then BB2.out hb3
          have hT3 : ∀ o, Tab (w3.alloc o) := fun o => hT.below (bl_alloc bb3 o)
          have BB3 := Lib.hid bb3
          clear bb3 hb3 pO2 hj hj0 ho hz hT2
          rw [m1]
          go_wp2_with (go_at_call 16; refine (sameFloat_c 0 0 (w_const (by decide)) (w_const (by decide)) _).mono ?_; rw [s0]; rintro e w' ⟨rfl, hw⟩; obtain rfl := hw.symm)
          refine (awake_c _ (hT3 _)).mono ?_
          rintro e wz ⟨rfl, hbz⟩
          go_wp2
          go_ret
          exact ⟨rfl, bl_then (bl_alloc BB3.out _) hbz⟩
end Go.Proofs.YtddleibffkaenaaDoor
