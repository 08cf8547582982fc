/- girderlaw01.BitsNumbers answers true. -/
import Derived.Test.YtddleibffkaenaaDoorLTells
namespace Go.Proofs.YtddleibffkaenaaDoor
open Go Go.RowKit GFl
set_option maxRecDepth 100000
attribute [local go_sem] run_f64bits run_f64frombits run_neg_f64

theorem join_t (ng : Bool) (fr : Nat) (ex : Int) (z : Nat) (hj : IsJoin ng fr ex z) (ho : joinOk fr ex) (hf : fr < 18446744073709551616) (he1 : -9223372036854775808 ≤ ex) (he2 : ex ≤ 9223372036854775807) (w : World) :
    Calls Tryd.prog 25 #[.agg #[.bool ng, .int .u64 fr, .int .i64 ex]] w fun e w' => e = .returned (.tuple #[.float .f64 z, .bool true]) ∧ Below w.heap.size w w' := by
  refine (join_any ng fr ex hf he1 he2 w).mono ?_
  rintro e w' ⟨rfl, _, h, _, hb⟩
  rw [(h ho).unique hj, jnO_iff.2 ho]
  exact ⟨rfl, hb⟩
theorem join_f (ng : Bool) (fr : Nat) (ex : Int) (ho : ¬ joinOk fr ex) (hf : fr < 18446744073709551616) (he1 : -9223372036854775808 ≤ ex) (he2 : ex ≤ 9223372036854775807) (w : World) :
    Calls Tryd.prog 25 #[.agg #[.bool ng, .int .u64 fr, .int .i64 ex]] w fun e w' => e = .returned (.tuple #[.float .f64 0, .bool false]) ∧ Below w.heap.size w w' := by
  refine (join_any ng fr ex hf he1 he2 w).mono ?_
  rintro e w' ⟨rfl, _, _, h, hb⟩
  rw [h ho, show jnO fr ex = false from Bool.eq_false_iff.2 (fun h => ho (jnO_iff.1 h))]
  exact ⟨rfl, hb⟩
theorem ulp_t (x z : Nat) (hx : W64 x) (h1 : rg x < 9218868437227405312) (hz : IsUlp x z) (w : World) : Calls Tryd.prog 14 #[.float .f64 x] w fun e w' => e = .returned (.tuple #[.float .f64 z, .bool true]) ∧ Below w.heap.size w w' := by
  refine (ulp_yes x hx h1 w).mono ?_
  rintro e w' ⟨y, rfl, hy, hb⟩
  rw [hy.unique hz]
  exact ⟨rfl, hb⟩
theorem u1 : IsUlp 9223372036854775808 1 := ⟨w_const (by decide), by decide, by decide, by decide +kernel⟩
theorem u2 : IsUlp 18442240474082181119 8980177656976769024 := ⟨w_const (by decide), by decide, by decide, by
  rw [show rg 8980177656976769024 = 8980177656976769024 from by decide, mg_norm (by decide)]; decide +kernel⟩
theorem j1 : IsJoin false 1 1023 9214364837600034816 := ⟨w_const (by decide), by decide, by decide, by
  rw [show rg 9214364837600034816 = 9214364837600034816 from by decide, mg_norm (by decide)]; decide +kernel⟩
theorem j2 : IsJoin true 1 (-1074) 9223372036854775809 := ⟨w_const (by decide), by decide, by decide, by decide +kernel⟩
theorem o1 : joinOk 1 1023 := Or.inr ⟨by decide, by decide, by decide, by decide +kernel⟩
theorem o2 : joinOk 1 (-1074) := Or.inr ⟨by decide, by decide, by decide, by decide +kernel⟩
theorem joinOk_no {fr : Nat} {ex : Int} (h : ¬ (fr = 0 ∧ ex = 0)) (h2 : fr % 2 = 1 → fr < 9007199254740992 → -1074 ≤ ex → ¬ fr * p2 (ex + 1074).toNat < p2 2098) : ¬ joinOk fr ex := by
  rintro (h' | ⟨a, b, c, d⟩)
  · exact h h'
  · exact h2 a b c d
theorem n1 : ¬ joinOk 2 0 := joinOk_no (by decide) (by decide)
theorem n2 : ¬ joinOk 0 1 := joinOk_no (by decide) (by decide)
theorem n3 : ¬ joinOk 1 1024 := joinOk_no (by decide) (fun _ _ _ => by decide +kernel)
theorem n4 : ¬ joinOk 1 (-1075) := joinOk_no (by decide) (fun _ _ h => absurd h (by decide))
theorem n5 : ¬ joinOk 9007199254740993 0 := joinOk_no (by decide) (fun _ h => absurd h (by decide))
theorem n6 : ¬ joinOk 9007199254740991 972 := joinOk_no (by decide) (fun _ _ _ => by decide +kernel)
theorem n7 : ¬ joinOk 18446744073709551615 0 := joinOk_no (by decide) (fun _ h => absurd h (by decide))
theorem n8 : ¬ joinOk 3 4611686018427387904 := joinOk_no (by decide) (fun _ _ _ h => by
  have := Nat.lt_of_le_of_lt (Nat.le_mul_of_pos_left (p2 ((4611686018427387904 : Int) + 1074).toNat) (by decide : 0 < 3)) h
  exact absurd (p2_lt this) (by decide))
theorem n9 : ¬ joinOk 1 (-9223372036854775808) := joinOk_no (by decide) (fun _ _ h => absurd h (by decide))

set_option maxHeartbeats 4000000 in
theorem bitsNumbers_c (w : World) (hT : Tab w) : Calls Tryd.prog 9 #[] w fun e w' => e = .returned (.bool true) ∧ Below w.heap.size w w' := by
  have hc : csgn 0 13830554455654793216 = 9223372036854775808 := by decide
  have a1 : atF 9218868437227405312 = 9218868437227405312 := by decide
  have a2 : atF (-9218868437227405312) = 18442240474082181120 := by decide
  have a3 : atOk 9218868437227405313 = false := by decide
  have a4 : atOk (-9218868437227405313) = false := by decide
  have a5 : atOk (-9218868437227405312) = true := by decide
  have a6 : atOk (9218868437227405312) = true := by decide
  have s0 : sameF 0 0 = true := by decide
  have s1 : sameF 9223372036854775808 0 = false := by decide
  have x1 : nextF 9223372036854775809 true = 0 := by decide
  have x2 : nextF 9218868437227405311 true = 9218868437227405312 := by decide
  have x3 : wd (decide ((1 : Int) < 0)) 9218868437227405312 = 9218868437227405312 := by decide
  have b1 : betwF 9223372036854775808 0 = 0 := by decide
  have b2 : betwF 0 9223372036854775808 = 0 := by decide
  have b3 : betwOk 9223372036854775808 0 = true := by decide
  have b4 : betwOk 0 9223372036854775808 = true := by decide
  have r1 : orderF 9223372036854775808 0 = -1 := by decide
  have r2 : orderF 9221120237041090561 9218868437227405312 = 1 := by decide
  have k1 : kindF 4503599627370496 = 2 := by decide
  have k2 : kindF 2251799813685248 = 1 := by decide
  have t3 : FloatKind.f64.format.order 1 1 = some Ordering.eq := by decide +kernel
  have t4 : FloatKind.f64.format.order 8980177656976769024 8980177656976769024 = some Ordering.eq := by decide +kernel
  have i1 : infS 9218868437227405312 1 = true := by decide
  have i2 : infS 18442240474082181120 (-1) = true := by decide
  have t1 : FloatKind.f64.format.order 9214364837600034816 9214364837600034816 = some Ordering.eq := by decide +kernel
  have t2 : FloatKind.f64.format.order 9223372036854775809 9223372036854775809 = some Ordering.eq := by decide +kernel
  go_enter Tryd.func9, Tryd.ntmps9
  go_wp2_with (first | (go_at_call 36; refine (copysign_c _ _ (w_const (by decide)) (w_const (by decide)) _).mono ?_; rw [hc]; rintro e w' ⟨rfl, rfl⟩) | (go_at_call 27; refine (at_c _ (by decide) (by decide) _).mono ?_; rintro e w' ⟨rfl, rfl⟩))
  refine (join_t _ 1 _ _ j1 o1 (by decide) (by decide) (by decide) _).mono ?_
  rintro e w1 ⟨rfl, hb1⟩
  go_wp2_with fail
  refine (join_t _ 1 _ _ j2 o2 (by decide) (by decide) (by decide) _).mono ?_
  rintro e w2 ⟨rfl, hb2⟩
  go_wp2_with (first | (go_at_call 22; refine (isInf_c _ _ (w_const (by decide)) _).mono ?_; rintro e w' ⟨rfl, rfl⟩))
  refine wp_loop_rounds 10 ?_
  rw [rounds_succ]
  go_wp2_with fail
  refine (join_f _ _ _ n1 (by decide) (by decide) (by decide) _).mono ?_
  rintro e w3 ⟨rfl, hb3⟩
  have p3 := blk_new hb3
  have bb3 := bl_then (bl_alloc (bl_then hb1 hb2) _) hb3
  clear hb3 hb1 hb2
  have c0 := blk_cell (i := 3) p3 rfl
  have c1 := blk_cell (i := 4) p3 rfl
  have c2 := blk_cell (i := 5) p3 rfl
  go_wp2_with (first | (go_at_call 16; refine (sameFloat_c 0 0 (w_const (by decide)) (w_const (by decide)) _).mono ?_; rw [s0]; rintro e w' ⟨rfl, rfl⟩))
  rw [rounds_succ]
  go_wp2_with fail
  refine (join_f _ 0 1 n2 (by decide) (by decide) (by decide) _).mono ?_
  rintro e w4 ⟨rfl, hb4⟩
  have p4 := blk_keep hb4 p3
  have bb4 := bl_then bb3 hb4
  clear c0 c1 c2 p3 hb4 bb3
  have c0 := blk_cell (i := 6) p4 rfl
  have c1 := blk_cell (i := 7) p4 rfl
  have c2 := blk_cell (i := 8) p4 rfl
  go_wp2_with (first | (go_at_call 16; refine (sameFloat_c 0 0 (w_const (by decide)) (w_const (by decide)) _).mono ?_; rw [s0]; rintro e w' ⟨rfl, rfl⟩))
  rw [rounds_succ]
  go_wp2_with fail
  refine (join_f _ 1 1024 n3 (by decide) (by decide) (by decide) _).mono ?_
  rintro e w5 ⟨rfl, hb5⟩
  have p5 := blk_keep hb5 p4
  have bb5 := bl_then bb4 hb5
  clear c0 c1 c2 p4 hb5 bb4
  have c0 := blk_cell (i := 9) p5 rfl
  have c1 := blk_cell (i := 10) p5 rfl
  have c2 := blk_cell (i := 11) p5 rfl
  go_wp2_with (first | (go_at_call 16; refine (sameFloat_c 0 0 (w_const (by decide)) (w_const (by decide)) _).mono ?_; rw [s0]; rintro e w' ⟨rfl, rfl⟩))
  rw [rounds_succ]
  go_wp2_with fail
  refine (join_f _ 1 (-1075) n4 (by decide) (by decide) (by decide) _).mono ?_
  rintro e w6 ⟨rfl, hb6⟩
  have p6 := blk_keep hb6 p5
  have bb6 := bl_then bb5 hb6
  clear c0 c1 c2 p5 hb6 bb5
  have c0 := blk_cell (i := 12) p6 rfl
  have c1 := blk_cell (i := 13) p6 rfl
  have c2 := blk_cell (i := 14) p6 rfl
  go_wp2_with (first | (go_at_call 16; refine (sameFloat_c 0 0 (w_const (by decide)) (w_const (by decide)) _).mono ?_; rw [s0]; rintro e w' ⟨rfl, rfl⟩))
  rw [rounds_succ]
  go_wp2_with fail
  refine (join_f _ 9007199254740993 0 n5 (by decide) (by decide) (by decide) _).mono ?_
  rintro e w7 ⟨rfl, hb7⟩
  have p7 := blk_keep hb7 p6
  have bb7 := bl_then bb6 hb7
  clear c0 c1 c2 p6 hb7 bb6
  have c0 := blk_cell (i := 15) p7 rfl
  have c1 := blk_cell (i := 16) p7 rfl
  have c2 := blk_cell (i := 17) p7 rfl
  go_wp2_with (first | (go_at_call 16; refine (sameFloat_c 0 0 (w_const (by decide)) (w_const (by decide)) _).mono ?_; rw [s0]; rintro e w' ⟨rfl, rfl⟩))
  rw [rounds_succ]
  go_wp2_with fail
  refine (join_f _ 9007199254740991 972 n6 (by decide) (by decide) (by decide) _).mono ?_
  rintro e w8 ⟨rfl, hb8⟩
  have p8 := blk_keep hb8 p7
  have bb8 := bl_then bb7 hb8
  clear c0 c1 c2 p7 hb8 bb7
  have c0 := blk_cell (i := 18) p8 rfl
  have c1 := blk_cell (i := 19) p8 rfl
  have c2 := blk_cell (i := 20) p8 rfl
  go_wp2_with (first | (go_at_call 16; refine (sameFloat_c 0 0 (w_const (by decide)) (w_const (by decide)) _).mono ?_; rw [s0]; rintro e w' ⟨rfl, rfl⟩))
  rw [rounds_succ]
  go_wp2_with fail
  refine (join_f _ 18446744073709551615 0 n7 (by decide) (by decide) (by decide) _).mono ?_
  rintro e w9 ⟨rfl, hb9⟩
  have p9 := blk_keep hb9 p8
  have bb9 := bl_then bb8 hb9
  clear c0 c1 c2 p8 hb9 bb8
  have c0 := blk_cell (i := 21) p9 rfl
  have c1 := blk_cell (i := 22) p9 rfl
  have c2 := blk_cell (i := 23) p9 rfl
  go_wp2_with (first | (go_at_call 16; refine (sameFloat_c 0 0 (w_const (by decide)) (w_const (by decide)) _).mono ?_; rw [s0]; rintro e w' ⟨rfl, rfl⟩))
  rw [rounds_succ]
  go_wp2_with fail
  refine (join_f _ 3 4611686018427387904 n8 (by decide) (by decide) (by decide) _).mono ?_
  rintro e w10 ⟨rfl, hb10⟩
  have p10 := blk_keep hb10 p9
  have bb10 := bl_then bb9 hb10
  clear c0 c1 c2 p9 hb10 bb9
  have c0 := blk_cell (i := 24) p10 rfl
  have c1 := blk_cell (i := 25) p10 rfl
  have c2 := blk_cell (i := 26) p10 rfl
  go_wp2_with (first | (go_at_call 16; refine (sameFloat_c 0 0 (w_const (by decide)) (w_const (by decide)) _).mono ?_; rw [s0]; rintro e w' ⟨rfl, rfl⟩))
  rw [rounds_succ]
  go_wp2_with fail
  refine (join_f _ 1 (-9223372036854775808) n9 (by decide) (by decide) (by decide) _).mono ?_
  rintro e w11 ⟨rfl, hb11⟩
  have p11 := blk_keep hb11 p10
  have bb11 := bl_then bb10 hb11
  clear c0 c1 c2 p10 hb11 bb10
  go_wp2_with (first | (go_at_call 16; refine (sameFloat_c 0 0 (w_const (by decide)) (w_const (by decide)) _).mono ?_; rw [s0]; rintro e w' ⟨rfl, rfl⟩))
  rw [rounds_succ]
  go_wp2_with fail
  refine (ulp_t _ _ (w_const (by decide)) (by decide) u1 _).mono ?_
  rintro e w12 ⟨rfl, hb12⟩
  have bb12 := bl_then bb11 hb12
  clear p11 bb11 hb12
  go_wp2_with fail
  refine (ulp_t _ _ (w_const (by decide)) (by decide) u2 _).mono ?_
  rintro e w13 ⟨rfl, hb13⟩
  have bb13 := bl_then bb12 hb13
  clear bb12 hb13
  go_wp2_with (first | (go_at_call 30; refine (between_c _ _ (w_const (by decide)) (w_const (by decide)) _).mono ?_; rintro e w' ⟨rfl, rfl⟩) | (go_at_call 19; refine (next_c _ _ (w_const (by decide)) _).mono ?_; rintro e w' ⟨rfl, rfl⟩) | (go_at_call 16; (try rw [x1]); refine (sameFloat_c 0 0 (w_const (by decide)) (w_const (by decide)) _).mono ?_; rw [s0]; rintro e w' ⟨rfl, rfl⟩))
  refine (order_c _ _ (w_const (by decide)) (w_const (by decide)) _).mono ?_
  rintro e w14 ⟨rfl, hb14⟩
  have bb14 := bl_then bb13 hb14
  clear bb13 hb14
  go_wp2_with (first | (go_at_call 32; refine (same_c _ _ (w_const (by decide)) (w_const (by decide)) _).mono ?_; (try rw [s1]); rintro e w' ⟨rfl, rfl⟩) | (go_at_call 19; refine (next_c _ _ (w_const (by decide)) _).mono ?_; rintro e w' ⟨rfl, rfl⟩) | (go_at_call 22; (try rw [x2]); refine (isInf_c _ _ (w_const (by decide)) _).mono ?_; rintro e w' ⟨rfl, rfl⟩) | (go_at_call 37; refine (nan_c _).mono ?_; rintro e w' ⟨rfl, rfl⟩) | (go_at_call 38; refine (inf_c _ _).mono ?_; (try rw [x3]); rintro e w' ⟨rfl, rfl⟩))
  refine (order_c _ _ (w_const (by decide)) (w_const (by decide)) _).mono ?_
  rintro e w15 ⟨rfl, hb15⟩
  have bb15 := bl_then bb14 hb15
  clear bb14 hb15
  have hT15 := hT.below bb15
  have BB := Lib.hid bb15
  clear bb15
  go_wp2_with (first | (go_at_call 17; refine (kind_c _ (w_const (by decide)) _).mono ?_; rintro e w' ⟨rfl, rfl⟩))
  refine (awake_c _ hT15).mono ?_
  rintro e wz ⟨rfl, hbz⟩
  go_wp2
  go_ret
  exact ⟨rfl, bl_then BB.out hbz⟩
end Go.Proofs.YtddleibffkaenaaDoor
