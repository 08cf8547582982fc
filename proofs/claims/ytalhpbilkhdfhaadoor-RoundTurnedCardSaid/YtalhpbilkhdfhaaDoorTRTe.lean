import Derived.Test.YtalhpbilkhdfhaaDoorTRTc
namespace Go.Proofs.YtalhpbilkhdfhaaDoor.XBn
open Go.RowKit Go.Proofs.YtalhpbilkhdfhaaDoorW.PrintWords Go.Proofs.YtalhpbilkhdfhaaDoorW.PrintLast Go.Proofs.YtalhpbilkhdfhaaDoorW.PrintMore
attribute [local go_sem] max2_int min2_int max_two min_two max_three min_three max_four min_four
set_option linter.unusedVariables false
set_option linter.unusedSimpArgs false
def bignum_right.l0:Nat→List Int→Int→Int→List Int→Int→Option (List Int)
  | 0,_,_,_,_,_=>none
  | k + 1,x0,x5,x6,x7,x8=>if x8 < (x7.length:Int) then (if 0≤(wrap64 (x8 + x5)) then (if (wrap64 (x8 + x5)) < (x0.length:Int) then (if (wrap64 ((wrap64 (x8 + x5)) + 1)) < (x0.length:Int) then (if 0≤(wrap64 ((wrap64 (x8 + x5)) + 1)) then (if 0≤x6 then (if 0≤x8 then (bignum_right.l0 k x0 x5 x6 (x7.set (x8:Int).toNat ((shr .u64 (Go.bits .or .u64 (IntKind.u64.wrap (rd x0 (wrap64 (x8 + x5)))) (IntKind.u64.wrap ((IntKind.u64.wrap (rd x0 (wrap64 ((wrap64 (x8 + x5)) + 1)))) * 4294967296))) x6) % 4294967296)) (wrap64 (x8 + 1))) else (none)) else (none)) else (none)) else (if 0≤x6 then (if 0≤x8 then (bignum_right.l0 k x0 x5 x6 (x7.set (x8:Int).toNat ((shr .u64 (IntKind.u64.wrap (rd x0 (wrap64 (x8 + x5)))) x6) % 4294967296)) (wrap64 (x8 + 1))) else (none)) else (none))) else (none)) else (none)) else ((bignum_trim.f k x7).bind fun t168=>(some t168))
def bignum_right.f (k:Nat) (l0:List Int) (a1:Int):Option (List Int):=if (wrap64 (IntKind.u64.wrap (Int.tdiv a1 32))) ≥ (l0.length:Int) then (some ([]:List Int)) else (if 0≤(wrap64 ((l0.length:Int) - (wrap64 (IntKind.u64.wrap (Int.tdiv a1 32))))) then (if (wrap64 ((l0.length:Int) - (wrap64 (IntKind.u64.wrap (Int.tdiv a1 32)))):Int).toNat≤70368744177664 then (bignum_right.l0 k l0 (wrap64 (IntKind.u64.wrap (Int.tdiv a1 32))) (Int.tmod a1 32) (List.replicate (wrap64 ((l0.length:Int) - (wrap64 (IntKind.u64.wrap (Int.tdiv a1 32)))):Int).toNat 0) 0) else (none)) else (none))
theorem bignum_right.mono_l:∀ k,(∀ y0 y1 y2 y3 y4,LeO (bignum_right.l0 k y0 y1 y2 y3 y4) (bignum_right.l0 (k + 1) y0 y1 y2 y3 y4))
  | 0=>fun _ _ _ _ _ r h=>by simp [bignum_right.l0] at h
  | k + 1=>by
    have ih0:=bignum_right.mono_l k
    · intro y0 y1 y2 y3 y4
      unfold bignum_right.l0
      repeat' first
      | (with_reducible exact ih0 _ _ _ _ _)
      | (with_reducible exact bignum_trim.mono _ _)
      | (with_reducible exact LeO.refl _)
      | (with_reducible exact LeO.none _)
      | (with_reducible refine LeO.ite ?_ ?_)
      | (with_reducible refine LeO.bind ?_ (fun _=>?_))
      | exact ih0 _ _ _ _ _
      | exact bignum_trim.mono _ _
      | exact LeO.none _
      | refine LeO.ite ?_ ?_
      | refine LeO.bind ?_ (fun _=>?_)
theorem bignum_right.mono:∀ a0 a1 k,LeO (bignum_right.f k a0 a1) (bignum_right.f (k + 1) a0 a1):=by
  intro a0 a1 k
  have ih0:=bignum_right.mono_l k
  unfold bignum_right.f
  repeat' first
      | (with_reducible exact ih0 _ _ _ _ _)
      | (with_reducible exact bignum_trim.mono _ _)
      | (with_reducible exact LeO.refl _)
      | (with_reducible exact LeO.none _)
      | (with_reducible refine LeO.ite ?_ ?_)
      | (with_reducible refine LeO.bind ?_ (fun _=>?_))
      | exact ih0 _ _ _ _ _
      | exact bignum_trim.mono _ _
      | exact LeO.none _
      | refine LeO.ite ?_ ?_
      | refine LeO.bind ?_ (fun _=>?_)
set_option maxHeartbeats 8000000 in
set_option maxRecDepth 100000 in
theorem bignum_right.calls (k:Nat) (A0:Option Addr) (c0:Nat) (l0:List Int) (a1:Int) (r:List Int) (w:World) (hr0:Kd.C (Kd.int .u32) w A0 l0.length l0) (hc0:l0.length≤c0) (h:bignum_right.f k l0 a1=some r) :
    Calls Tryd.prog 74 #[.slice A0 l0.length c0,.int .u64 a1] w fun e w'=>∃ v0_:Value,e=.returned (v0_)∧Kd.R (Kd.int .u32) 96 w' w.heap.size (fun _=>True) v0_ r∧Below w.heap.size w w':=by
  have HR0:=Aside0.mk hr0
  have HC0:=Aside0.mk hc0
  clear hr0 hc0
  have HB:=Aside0.mk (Below.refl w.heap.size w)
  have H:(if (wrap64 (IntKind.u64.wrap (Int.tdiv a1 32))) ≥ (l0.length:Int) then (some ([]:List Int)) else (if 0≤(wrap64 ((l0.length:Int) - (wrap64 (IntKind.u64.wrap (Int.tdiv a1 32))))) then (if (wrap64 ((l0.length:Int) - (wrap64 (IntKind.u64.wrap (Int.tdiv a1 32)))):Int).toNat≤70368744177664 then (bignum_right.l0 k l0 (wrap64 (IntKind.u64.wrap (Int.tdiv a1 32))) (Int.tmod a1 32) (List.replicate (wrap64 ((l0.length:Int) - (wrap64 (IntKind.u64.wrap (Int.tdiv a1 32)))):Int).toNat 0) 0) else (none)) else (none)))=some r:=h
  clear h
  by_cases c3:(wrap64 (IntKind.u64.wrap (Int.tdiv a1 32))) ≥ (l0.length:Int)
  · rw [if_pos c3] at H
    have c3b0:decide ((l0.length:Int)≤(wrap64 (IntKind.u64.wrap (Int.tdiv a1 32))))=true:=decide_eq_true c3
    clear c3
    obtain rfl:=Option.some.inj H
    go_enter Tryd.func74,Tryd.ntmps74
    go_wp2
    go_ret
    exact ⟨_,by first|rfl|(simp [errW_none,errW_some] <;> rfl)|(simp [*,errW_none,errW_some] <;> rfl),by first|exact Kd.R_nil _ _ _ _ _|exact Kd.N_nil _ _ _ _ _|exact Kd.V_nil _ _ _ _ _|exact Kd.Q_nil _ _ _ _ _|exact Kd.S_nil _ _ _ _ _,by repeat (first|(with_reducible first|exact HB.out|apply below_alloc|apply pw_below_drewN|apply below_drew1)|exact HB.out)⟩
  · rw [if_neg c3] at H
    have c3b0:decide ((l0.length:Int)≤(wrap64 (IntKind.u64.wrap (Int.tdiv a1 32))))=false:=decide_eq_false c3
    clear c3
    obtain ⟨ji4,hji4⟩:∃ j_:Int,(wrap64 ((l0.length:Int) - (wrap64 (IntKind.u64.wrap (Int.tdiv a1 32)))))=j_:=⟨_,rfl⟩
    replace H:(if 0≤(ji4) then (if (ji4:Int).toNat≤70368744177664 then (bignum_right.l0 k l0 (wrap64 (IntKind.u64.wrap (Int.tdiv a1 32))) (Int.tmod a1 32) (List.replicate (ji4:Int).toNat 0) 0) else (none)) else (none))=some r:=by first|(rw [hji4] at H;exact H)|(simp only [hji4] at H ⊢;exact H)
    have hji4w:(IntKind.i64.wrap ((l0.length:Int) - (wrap64 (IntKind.u64.wrap (Int.tdiv a1 32)))))=ji4:=(i64_w _).trans hji4
    by_cases c5:0≤(ji4)
    · rw [if_pos c5] at H
      have c5b0:=eq_true c5
      have c5b1:decide (0≤(ji4))=true:=decide_eq_true c5
      clear c5
      by_cases c6:(ji4:Int).toNat≤70368744177664
      · rw [if_pos c6] at H
        have c6b0:=eq_true c6
        have c6b1:decide ((ji4:Int).toNat≤70368744177664)=true:=decide_eq_true c6
        clear c6
        obtain ⟨y161,hy161⟩:∃ y_:List Int,y_=(List.replicate (ji4:Int).toNat 0):=⟨_,rfl⟩
        replace H:(bignum_right.l0 k l0 (wrap64 (IntKind.u64.wrap (Int.tdiv a1 32))) (Int.tmod a1 32) y161 0)=some r:=by first|(rw [hy161];with_reducible exact H)|(have H2_:=(Option.bind_some _ _).symm.trans H;rw [hy161];with_reducible exact H2_)|(have H2_:=(Option.bind_some _ _).symm.trans H;with_reducible exact H2_)|with_reducible exact H|(rw [hy161];exact H)|exact H
        have Ny161:=Aside0.mk hy161
        clear hy161
        have H':=Aside0.mk H
        clear H
        go_enter Tryd.func74,Tryd.ntmps74
        go_wp2_with (first|((with_reducible refine gate_dst (N:=23) rfl ?_);refine Kd.R_make (Kd.int .u32) _ 96 rfl (N:=23) rfl 74 _ _ rfl ji4 rfl rfl Tryd.underlying74 (.int .u32 0) 4 info96 rfl (by decide) (by omega) 0 (ok:=fun _=>True) (okp:=fun _=>True) rfl (fun _ hk=>hk) trivial (of_decide_eq_true (by first|(with_reducible assumption)|assumption)) (Nat.le_trans (Nat.mul_le_mul_right _ (of_decide_eq_true (by first|(with_reducible assumption)|assumption):ji4.toNat≤70368744177664)) (by omega)) (Below.refl _ _) (Nat.le_refl _) ?_;intro v162 w7 ho8 hb hg_ hnew_;clear hg_ hnew_;(first|rw [← Ny161.out] at ho8|(simp only [Int.reduceToNat] at ho8;rw [← Ny161.out] at ho8));have n0_:=Aside0.mk (Kd.R_lower ho8 (below_size (by repeat (first|(with_reducible first|exact HB.out|apply below_alloc|apply pw_below_drewN|apply below_drew1)|exact HB.out))));have n1_:=Aside0.mk (below_step (by repeat (first|(with_reducible first|exact HB.out|apply below_alloc|apply pw_below_drewN|apply below_drew1)|exact HB.out)) hb);clear HB;have HO163:=n0_;have HB:=n1_;clear n0_ n1_;clear hb ho8))
        go_loopg [8] k (fun kq v8 w'=>∃ (x7_1:List Int) (x8_1:Int),v8=.int .i64 x8_1∧Aside0 (bignum_right.l0 kq l0 (wrap64 (IntKind.u64.wrap (Int.tdiv a1 32))) (Int.tmod a1 32) x7_1 x8_1=some r)∧Aside0 (kq≤k)∧Aside0 (Kd.R (Kd.int .u32) 96 w' w.heap.size (fun _=>True) v162 x7_1)∧Aside0 (Below w.heap.size w w'))
        case atStart=>exact ⟨(y161),(0),(by first|rfl|(simp;done)|(simp [*];done)),H',⟨Nat.le_refl _⟩,⟨by (with_reducible repeat (first|apply Kd.R_alloc|apply Kd.R_drewN|apply Kd.R_drew));exact HO163.out⟩,⟨by repeat (first|(with_reducible first|exact HB.out|apply below_alloc|apply pw_below_drewN|apply below_drew1)|exact HB.out)⟩⟩
        case round =>
          clear H'
          try clear p2
          try clear c3
          try clear c3b0
          try clear c5
          try clear c5b0
          try clear c5b1
          try clear c6
          try clear c6b0
          try clear c6b1
          try clear p6
          try clear c7
          obtain ⟨x7_1,x8_1,rfl,HA,HK1,HO_7,HB⟩:=hrel
          cases gk with
          | zero=>exact absurd HA.out (by simp [bignum_right.l0])
          | succ k1 =>
            have H:=HA.out
            clear HA
            simp only [bignum_right.l0] at H
            by_cases c9:x8_1 < (x7_1.length:Int)
            · rw [if_pos c9] at H
              have c9b0:decide (x8_1 < (x7_1.length:Int))=true:=decide_eq_true c9
              clear c9
              obtain ⟨ji10,hji10⟩:∃ j_:Int,(wrap64 (x8_1 + (wrap64 (IntKind.u64.wrap (Int.tdiv a1 32)))))=j_:=⟨_,rfl⟩
              replace H:(if 0≤(ji10) then (if (ji10) < (l0.length:Int) then (if (wrap64 ((ji10) + 1)) < (l0.length:Int) then (if 0≤(wrap64 ((ji10) + 1)) then (if 0≤(Int.tmod a1 32) then (if 0≤x8_1 then (bignum_right.l0 k1 l0 (wrap64 (IntKind.u64.wrap (Int.tdiv a1 32))) (Int.tmod a1 32) (x7_1.set (x8_1:Int).toNat ((shr .u64 (Go.bits .or .u64 (IntKind.u64.wrap (rd l0 (ji10))) (IntKind.u64.wrap ((IntKind.u64.wrap (rd l0 (wrap64 ((ji10) + 1)))) * 4294967296))) (Int.tmod a1 32)) % 4294967296)) (wrap64 (x8_1 + 1))) else (none)) else (none)) else (none)) else (if 0≤(Int.tmod a1 32) then (if 0≤x8_1 then (bignum_right.l0 k1 l0 (wrap64 (IntKind.u64.wrap (Int.tdiv a1 32))) (Int.tmod a1 32) (x7_1.set (x8_1:Int).toNat ((shr .u64 (IntKind.u64.wrap (rd l0 (ji10))) (Int.tmod a1 32)) % 4294967296)) (wrap64 (x8_1 + 1))) else (none)) else (none))) else (none)) else (none))=some r:=by first|(rw [hji10] at H;exact H)|(simp only [hji10] at H ⊢;exact H)
              have hji10w:(IntKind.i64.wrap (x8_1 + (wrap64 (IntKind.u64.wrap (Int.tdiv a1 32)))))=ji10:=(i64_w _).trans hji10
              by_cases c11:0≤(ji10)
              · rw [if_pos c11] at H
                have c11b0:decide (0≤(ji10))=true:=decide_eq_true c11
                clear c11
                by_cases c12:(ji10) < (l0.length:Int)
                · rw [if_pos c12] at H
                  have c12b0:decide ((ji10) < (l0.length:Int))=true:=decide_eq_true c12
                  clear c12
                  by_cases c13:(wrap64 ((ji10) + 1)) < (l0.length:Int)
                  · rw [if_pos c13] at H
                    have c13b0:decide ((wrap64 ((ji10) + 1)) < (l0.length:Int))=true:=decide_eq_true c13
                    clear c13
                    obtain ⟨ji14,hji14⟩:∃ j_:Int,(wrap64 ((ji10) + 1))=j_:=⟨_,rfl⟩
                    replace H:(if 0≤(ji14) then (if 0≤(Int.tmod a1 32) then (if 0≤x8_1 then (bignum_right.l0 k1 l0 (wrap64 (IntKind.u64.wrap (Int.tdiv a1 32))) (Int.tmod a1 32) (x7_1.set (x8_1:Int).toNat ((shr .u64 (Go.bits .or .u64 (IntKind.u64.wrap (rd l0 (ji10))) (IntKind.u64.wrap ((IntKind.u64.wrap (rd l0 (ji14))) * 4294967296))) (Int.tmod a1 32)) % 4294967296)) (wrap64 (x8_1 + 1))) else (none)) else (none)) else (none))=some r:=by first|(rw [hji14] at H;exact H)|(simp only [hji14] at H ⊢;exact H)
                    (try rw [hji14] at c13b0)
                    have hji14w:(IntKind.i64.wrap ((ji10) + 1))=ji14:=(i64_w _).trans hji14
                    by_cases c15:0≤(ji14)
                    · rw [if_pos c15] at H
                      have c15b0:decide (0≤(ji14))=true:=decide_eq_true c15
                      clear c15
                      obtain ⟨ji16,hji16⟩:∃ j_:Int,(Int.tmod a1 32)=j_:=⟨_,rfl⟩
                      replace H:(if 0≤(ji16) then (if 0≤x8_1 then (bignum_right.l0 k1 l0 (wrap64 (IntKind.u64.wrap (Int.tdiv a1 32))) (ji16) (x7_1.set (x8_1:Int).toNat ((shr .u64 (Go.bits .or .u64 (IntKind.u64.wrap (rd l0 (ji10))) (IntKind.u64.wrap ((IntKind.u64.wrap (rd l0 (ji14))) * 4294967296))) (ji16)) % 4294967296)) (wrap64 (x8_1 + 1))) else (none)) else (none))=some r:=by first|(rw [hji16] at H;exact H)|(simp only [hji16] at H ⊢;exact H)
                      by_cases c17:0≤(ji16)
                      · rw [if_pos c17] at H
                        have c17b0:=eq_true c17
                        have c17b1:decide (0≤(ji16))=true:=decide_eq_true c17
                        clear c17
                        obtain ⟨ji18,hji18⟩:∃ j_:Int,(shr .u64 (Go.bits .or .u64 (IntKind.u64.wrap (rd l0 (ji10))) (IntKind.u64.wrap ((IntKind.u64.wrap (rd l0 (ji14))) * 4294967296))) (ji16))=j_:=⟨_,rfl⟩
                        replace H:(if 0≤x8_1 then (bignum_right.l0 k1 l0 (wrap64 (IntKind.u64.wrap (Int.tdiv a1 32))) (ji16) (x7_1.set (x8_1:Int).toNat ((ji18) % 4294967296)) (wrap64 (x8_1 + 1))) else (none))=some r:=by first|(rw [hji18] at H;exact H)|(simp only [hji18] at H ⊢;exact H)
                        have hji18_:((Go.bits .or .u64 (IntKind.u64.wrap (rd l0 (ji10))) (IntKind.u64.wrap ((IntKind.u64.wrap (rd l0 (ji14))) * 4294967296))) / 2 ^ min (ji16).toNat 64)=ji18:=hji18
                        have hji18z:(ji16)≤64→((Go.bits .or .u64 (IntKind.u64.wrap (rd l0 (ji10))) (IntKind.u64.wrap ((IntKind.u64.wrap (rd l0 (ji14))) * 4294967296))) / 2 ^ (ji16).toNat)=ji18:=shr_small hji18
                        by_cases c19:0≤x8_1
                        · rw [if_pos c19] at H
                          have c19b0:decide (0≤x8_1)=true:=decide_eq_true c19
                          clear c19
                          obtain ⟨y166,hy166⟩:∃ y_:List Int,y_=(x7_1.set (x8_1:Int).toNat ((ji18) % 4294967296)):=⟨_,rfl⟩
                          replace H:(bignum_right.l0 k1 l0 (wrap64 (IntKind.u64.wrap (Int.tdiv a1 32))) (ji16) y166 (wrap64 (x8_1 + 1)))=some r:=by first|(rw [hy166];with_reducible exact H)|(have H2_:=(Option.bind_some _ _).symm.trans H;rw [hy166];with_reducible exact H2_)|(have H2_:=(Option.bind_some _ _).symm.trans H;with_reducible exact H2_)|with_reducible exact H|(rw [hy166];exact H)|exact H
                          have Ny166:=Aside0.mk hy166
                          clear hy166
                          have H':=Aside0.mk H
                          clear H
                          obtain ⟨Ao21,co21,eo21⟩:=Kd.R_slice HO_7.out
                          subst eo21
                          have p164:0≤((ji10):Int):=of_decide_eq_true (by first|(with_reducible assumption)|assumption)
                          have q164:(ji10) < (l0.length:Int):=of_decide_eq_true (by first|(with_reducible assumption)|assumption)
                          obtain ⟨ad164,e164,hx164_0⟩:=Kd.at_int HR0.out (ji10) p164 q164
                          cases e164
                          replace hx164_0:=(HB.out.cell (World.block_lt_of_cell? w _ hx164_0)).trans hx164_0
                          replace p164:=eq_true p164
                          replace q164:=eq_true q164
                          have p165:0≤((ji14):Int):=of_decide_eq_true (by first|(with_reducible assumption)|assumption)
                          have q165:(ji14) < (l0.length:Int):=of_decide_eq_true (by first|(with_reducible assumption)|assumption)
                          obtain ⟨ad165,e165,hx165_0⟩:=Kd.at_int HR0.out (ji14) p165 q165
                          obtain rfl:ad164=ad165:=(by injection e165)
                          replace hx165_0:=(HB.out.cell (World.block_lt_of_cell? w _ hx165_0)).trans hx165_0
                          replace p165:=eq_true p165
                          replace q165:=eq_true q165
                          have p20:0≤(x8_1:Int):=of_decide_eq_true (by first|(with_reducible assumption)|assumption)
                          have q20:(x8_1:Int) < ((x7_1.length:Int):Int):=of_decide_eq_true (by first|(with_reducible assumption)|assumption)
                          obtain ⟨go20,co20,eo20,gb20,gl20,cl20,HG20⟩:=Kd.R_form HO_7.out (by omega)
                          (first|cases eo20|(injection eo20 with ea_ en_ ec_;(first|subst ea_|(injection ea_ with ea_;subst ea_));subst ec_;clear en_))
                          have GB20:=Aside0.mk gb20
                          have GG20:=Aside0.mk HG20
                          clear gb20 gl20 HG20
                          obtain ⟨hx20_0,hf20_0⟩:=Kd.R_celln 0 HO_7.out (x8_1:Int) p20 q20
                          replace p20:=eq_true p20
                          replace q20:=eq_true q20
                          have HP22:=Kd.R_putg HO_7.out (x8_1:Int) ((ji18) % 4294967296)
                          go_wp2_with (first|((with_reducible refine gate_store (t:=96) (p:=61) rfl ?_);refine store_event (t:=96) (p:=61) (v:=?vo_w23) (w1:=(wr.setCell ⟨go20,(x8_1:Int).toNat,none⟩ (.int .u32 ((ji18) % 4294967296)))) ?hg ?ho ?hn ?hr ?_;(case ho=>rfl);(case hg=>rfl);(case hn=>rfl);(case hr=>first|(go_simp;done)|(go_simp;rfl));intro w23 hw;have hg:wr.grownBy w23 (some go20):=(by rw [hw];exact HP22.2);have hp_:Kd.R (Kd.int .u32) 96 w23 w.heap.size (fun _=>True) (.slice (some ⟨go20,0,none⟩) x7_1.length co21) y166:=(by rw [hw,Ny166.out];exact HP22.1);clear HP22;have n0_:=Aside0.mk (hp_);have n1_:=Aside0.mk ((by rw [hw];exact below_set (HB.out) GB20.out:Below w.heap.size w w23));clear HO_7;clear HB;have HO_7:=n0_;have HB:=n1_;clear n0_ n1_;clear hg hw hp_))
                          (try subst hji16)
                          go_roundg k1
                          case measure=>have:=HK1.out;omega
                          case rel=>exact ⟨(y166),(wrap64 (x8_1 + 1)),(by first|rfl|(simp;done)|(simp [*];done)),H',⟨by have:=HK1.out;omega⟩,⟨by (with_reducible repeat (first|apply Kd.R_alloc|apply Kd.R_drewN|apply Kd.R_drew));exact HO_7.out⟩,⟨by repeat (first|(with_reducible first|exact HB.out|apply below_alloc|apply pw_below_drewN|apply below_drew1)|exact HB.out)⟩⟩
                        · rw [if_neg c19] at H
                          exact absurd H (by simp)
                      · rw [if_neg c17] at H
                        exact absurd H (by simp)
                    · rw [if_neg c15] at H
                      exact absurd H (by simp)
                  · rw [if_neg c13] at H
                    have c13b0:decide ((wrap64 ((ji10) + 1)) < (l0.length:Int))=false:=decide_eq_false c13
                    clear c13
                    obtain ⟨ji24,hji24⟩:∃ j_:Int,(Int.tmod a1 32)=j_:=⟨_,rfl⟩
                    replace H:(if 0≤(ji24) then (if 0≤x8_1 then (bignum_right.l0 k1 l0 (wrap64 (IntKind.u64.wrap (Int.tdiv a1 32))) (ji24) (x7_1.set (x8_1:Int).toNat ((shr .u64 (IntKind.u64.wrap (rd l0 (ji10))) (ji24)) % 4294967296)) (wrap64 (x8_1 + 1))) else (none)) else (none))=some r:=by first|(rw [hji24] at H;exact H)|(simp only [hji24] at H ⊢;exact H)
                    by_cases c25:0≤(ji24)
                    · rw [if_pos c25] at H
                      have c25b0:=eq_true c25
                      have c25b1:decide (0≤(ji24))=true:=decide_eq_true c25
                      clear c25
                      obtain ⟨ji26,hji26⟩:∃ j_:Int,(shr .u64 (IntKind.u64.wrap (rd l0 (ji10))) (ji24))=j_:=⟨_,rfl⟩
                      replace H:(if 0≤x8_1 then (bignum_right.l0 k1 l0 (wrap64 (IntKind.u64.wrap (Int.tdiv a1 32))) (ji24) (x7_1.set (x8_1:Int).toNat ((ji26) % 4294967296)) (wrap64 (x8_1 + 1))) else (none))=some r:=by first|(rw [hji26] at H;exact H)|(simp only [hji26] at H ⊢;exact H)
                      have hji26_:((IntKind.u64.wrap (rd l0 (ji10))) / 2 ^ min (ji24).toNat 64)=ji26:=hji26
                      have hji26z:(ji24)≤64→((IntKind.u64.wrap (rd l0 (ji10))) / 2 ^ (ji24).toNat)=ji26:=shr_small hji26
                      by_cases c27:0≤x8_1
                      · rw [if_pos c27] at H
                        have c27b0:decide (0≤x8_1)=true:=decide_eq_true c27
                        clear c27
                        obtain ⟨y167,hy167⟩:∃ y_:List Int,y_=(x7_1.set (x8_1:Int).toNat ((ji26) % 4294967296)):=⟨_,rfl⟩
                        replace H:(bignum_right.l0 k1 l0 (wrap64 (IntKind.u64.wrap (Int.tdiv a1 32))) (ji24) y167 (wrap64 (x8_1 + 1)))=some r:=by first|(rw [hy167];with_reducible exact H)|(have H2_:=(Option.bind_some _ _).symm.trans H;rw [hy167];with_reducible exact H2_)|(have H2_:=(Option.bind_some _ _).symm.trans H;with_reducible exact H2_)|with_reducible exact H|(rw [hy167];exact H)|exact H
                        have Ny167:=Aside0.mk hy167
                        clear hy167
                        have H':=Aside0.mk H
                        clear H
                        obtain ⟨Ao29,co29,eo29⟩:=Kd.R_slice HO_7.out
                        subst eo29
                        have p164:0≤((ji10):Int):=of_decide_eq_true (by first|(with_reducible assumption)|assumption)
                        have q164:(ji10) < (l0.length:Int):=of_decide_eq_true (by first|(with_reducible assumption)|assumption)
                        obtain ⟨ad164,e164,hx164_0⟩:=Kd.at_int HR0.out (ji10) p164 q164
                        cases e164
                        replace hx164_0:=(HB.out.cell (World.block_lt_of_cell? w _ hx164_0)).trans hx164_0
                        replace p164:=eq_true p164
                        replace q164:=eq_true q164
                        have p28:0≤(x8_1:Int):=of_decide_eq_true (by first|(with_reducible assumption)|assumption)
                        have q28:(x8_1:Int) < ((x7_1.length:Int):Int):=of_decide_eq_true (by first|(with_reducible assumption)|assumption)
                        obtain ⟨go28,co28,eo28,gb28,gl28,cl28,HG28⟩:=Kd.R_form HO_7.out (by omega)
                        (first|cases eo28|(injection eo28 with ea_ en_ ec_;(first|subst ea_|(injection ea_ with ea_;subst ea_));subst ec_;clear en_))
                        have GB28:=Aside0.mk gb28
                        have GG28:=Aside0.mk HG28
                        clear gb28 gl28 HG28
                        obtain ⟨hx28_0,hf28_0⟩:=Kd.R_celln 0 HO_7.out (x8_1:Int) p28 q28
                        replace p28:=eq_true p28
                        replace q28:=eq_true q28
                        have HP30:=Kd.R_putg HO_7.out (x8_1:Int) ((ji26) % 4294967296)
                        go_wp2_with (first|((with_reducible refine gate_store (t:=96) (p:=61) rfl ?_);refine store_event (t:=96) (p:=61) (v:=?vo_w31) (w1:=(wr.setCell ⟨go28,(x8_1:Int).toNat,none⟩ (.int .u32 ((ji26) % 4294967296)))) ?hg ?ho ?hn ?hr ?_;(case ho=>rfl);(case hg=>rfl);(case hn=>rfl);(case hr=>first|(go_simp;done)|(go_simp;rfl));intro w31 hw;have hg:wr.grownBy w31 (some go28):=(by rw [hw];exact HP30.2);have hp_:Kd.R (Kd.int .u32) 96 w31 w.heap.size (fun _=>True) (.slice (some ⟨go28,0,none⟩) x7_1.length co29) y167:=(by rw [hw,Ny167.out];exact HP30.1);clear HP30;have n0_:=Aside0.mk (hp_);have n1_:=Aside0.mk ((by rw [hw];exact below_set (HB.out) GB28.out:Below w.heap.size w w31));clear HO_7;clear HB;have HO_7:=n0_;have HB:=n1_;clear n0_ n1_;clear hg hw hp_))
                        (try subst hji24)
                        go_roundg k1
                        case measure=>have:=HK1.out;omega
                        case rel=>exact ⟨(y167),(wrap64 (x8_1 + 1)),(by first|rfl|(simp;done)|(simp [*];done)),H',⟨by have:=HK1.out;omega⟩,⟨by (with_reducible repeat (first|apply Kd.R_alloc|apply Kd.R_drewN|apply Kd.R_drew));exact HO_7.out⟩,⟨by repeat (first|(with_reducible first|exact HB.out|apply below_alloc|apply pw_below_drewN|apply below_drew1)|exact HB.out)⟩⟩
                      · rw [if_neg c27] at H
                        exact absurd H (by simp)
                    · rw [if_neg c25] at H
                      exact absurd H (by simp)
                · rw [if_neg c12] at H
                  exact absurd H (by simp)
              · rw [if_neg c11] at H
                exact absurd H (by simp)
            · rw [if_neg c9] at H
              have c9b0:decide (x8_1 < (x7_1.length:Int))=false:=decide_eq_false c9
              clear c9
              replace H:=Option.bind_eq_some_iff.mp H
              obtain ⟨t168,A320,H⟩:=H
              replace H:(some t168)=some r:=H
              have A32:=Aside0.mk A320
              clear A320
              obtain rfl:=Option.some.inj H
              obtain ⟨Ao33,co33,eo33⟩:=Kd.R_slice HO_7.out
              subst eo33
              go_wp2_with (first|((with_reducible refine gate_callee (f:=91) rfl ?_);refine goesL_ (some 63) rfl rfl Tryd.func91 (by kernel_rfl) rfl #[.slice Ao33 x7_1.length co33] rfl (by (try simp only [List.map_toArray,List.map_cons,List.map_nil]);first|done|rfl|(simp only [List.length_drop,List.length_take];rfl)) ?_;(with_reducible refine (bignum_trim.calls k1 (fun k_=>some k_=(.slice Ao33 x7_1.length co33:Value).ownBlock) (.slice Ao33 x7_1.length co33) x7_1 t168 w _ ?side1 ?side2 A32.out).mono ?_);(case side1=>repeat (first|(with_reducible first|exact HB.out|apply below_alloc|apply pw_below_drewN|apply below_drew1)|exact HB.out));(case side2=>exact Kd.R_tight rfl HO_7.out);rintro e w34 ⟨v169,rfl,ho0,hb,hkp⟩;refine ⟨_,rfl,?_⟩;have n0_:=Aside0.mk (Kd.R_mono (ok':=fun k_=>True) ho0 (fun k_ hk_=>trivial));have n1_:=Aside0.mk (hb);clear HB;clear HO_7;have HO170:=n0_;have HB:=n1_;clear n0_ n1_;(try clear hb);(try clear hkp);(try clear ho0)))
              go_ret
              exact ⟨_,by first|rfl|(simp [errW_none,errW_some] <;> rfl)|(simp only [← hji4];first|rfl|(simp [errW_none,errW_some] <;> rfl))|(simp [*,errW_none,errW_some] <;> rfl),by (with_reducible repeat (first|apply Kd.R_alloc|apply Kd.R_drewN|apply Kd.R_drew));exact HO170.out,by repeat (first|(with_reducible first|exact HB.out|apply below_alloc|apply pw_below_drewN|apply below_drew1)|exact HB.out)⟩
      · rw [if_neg c6] at H
        exact absurd H (by simp)
    · rw [if_neg c5] at H
      exact absurd H (by simp)
def bignum_length.l0:Nat→List Int→Int→Int→Option (Int)
  | 0,_,_,_=>none
  | k + 1,x0,x3,x4=>if x4=0 then (some (wrap64 ((wrap64 ((wrap64 ((x0.length:Int) - 1)) * 32)) + x3))) else (bignum_length.l0 k x0 (wrap64 (x3 + 1)) (x4 / 2))
def bignum_length.f (k:Nat) (l0:List Int):Option (Int):=if (l0.length:Int)=0 then (some 0) else (if 0≤(wrap64 ((l0.length:Int) - 1)) then (if (wrap64 ((l0.length:Int) - 1)) < (l0.length:Int) then (bignum_length.l0 k l0 0 (rd l0 (wrap64 ((l0.length:Int) - 1)))) else (none)) else (none))
theorem bignum_length.mono_l:∀ k,(∀ y0 y1 y2,LeO (bignum_length.l0 k y0 y1 y2) (bignum_length.l0 (k + 1) y0 y1 y2))
  | 0=>fun _ _ _ r h=>by simp [bignum_length.l0] at h
  | k + 1=>by
    have ih0:=bignum_length.mono_l k
    · intro y0 y1 y2
      unfold bignum_length.l0
      repeat' first
      | (with_reducible exact ih0 _ _ _)
      | (with_reducible exact LeO.refl _)
      | (with_reducible exact LeO.none _)
      | (with_reducible refine LeO.ite ?_ ?_)
      | (with_reducible refine LeO.bind ?_ (fun _=>?_))
      | exact ih0 _ _ _
      | exact LeO.none _
      | refine LeO.ite ?_ ?_
      | refine LeO.bind ?_ (fun _=>?_)
theorem bignum_length.mono:∀ a0 k,LeO (bignum_length.f k a0) (bignum_length.f (k + 1) a0):=by
  intro a0 k
  have ih0:=bignum_length.mono_l k
  unfold bignum_length.f
  repeat' first
      | (with_reducible exact ih0 _ _ _)
      | (with_reducible exact LeO.refl _)
      | (with_reducible exact LeO.none _)
      | (with_reducible refine LeO.ite ?_ ?_)
      | (with_reducible refine LeO.bind ?_ (fun _=>?_))
      | exact ih0 _ _ _
      | exact LeO.none _
      | refine LeO.ite ?_ ?_
      | refine LeO.bind ?_ (fun _=>?_)
set_option maxHeartbeats 8000000 in
set_option maxRecDepth 100000 in
theorem bignum_length.calls (k:Nat) (A0:Option Addr) (c0:Nat) (l0:List Int) (r:Int) (w:World) (hr0:Kd.C (Kd.int .u32) w A0 l0.length l0) (hc0:l0.length≤c0) (h:bignum_length.f k l0=some r) :
    Calls Tryd.prog 89 #[.slice A0 l0.length c0] w fun e w'=>e=.returned (.int .i64 r)∧Drawn0 w w':=by
  have HR0:=Aside0.mk hr0
  have HC0:=Aside0.mk hc0
  clear hr0 hc0
  have H:(if (l0.length:Int)=0 then (some 0) else (if 0≤(wrap64 ((l0.length:Int) - 1)) then (if (wrap64 ((l0.length:Int) - 1)) < (l0.length:Int) then (bignum_length.l0 k l0 0 (rd l0 (wrap64 ((l0.length:Int) - 1)))) else (none)) else (none)))=some r:=h
  clear h
  by_cases c2:(l0.length:Int)=0
  · rw [if_pos c2] at H
    have c2b0:((l0.length:Int) == 0)=true:=beq_iff_eq.mpr c2
    have c2b1:((l0.length:Int) != 0)=false:=bne_eq_false_iff_eq.mpr c2
    clear c2
    obtain rfl:=Option.some.inj H
    go_enter Tryd.func89,Tryd.ntmps89
    go_wp2
    go_ret
    exact ⟨by first|rfl|(simp;done)|(simp [*];done),by repeat (first|exact Drawn0.refl _|apply Drawn0.step)⟩
  · rw [if_neg c2] at H
    have c2b0:((l0.length:Int) == 0)=false:=beq_eq_false_iff_ne.mpr c2
    have c2b1:((l0.length:Int) != 0)=true:=bne_iff_ne.mpr c2
    have c2b2:¬ (l0=[]):=fun h_=>c2 (by rw [h_];rfl)
    obtain ⟨ji3,hji3⟩:∃ j_:Int,(wrap64 ((l0.length:Int) - 1))=j_:=⟨_,rfl⟩
    replace H:(if 0≤(ji3) then (if (ji3) < (l0.length:Int) then (bignum_length.l0 k l0 0 (rd l0 (ji3))) else (none)) else (none))=some r:=by first|(rw [hji3] at H;exact H)|(simp only [hji3] at H ⊢;exact H)
    have hji3w:(IntKind.i64.wrap ((l0.length:Int) - 1))=ji3:=(i64_w _).trans hji3
    by_cases c4:0≤(ji3)
    · rw [if_pos c4] at H
      have c4b0:decide (0≤(ji3))=true:=decide_eq_true c4
      clear c4
      by_cases c5:(ji3) < (l0.length:Int)
      · rw [if_pos c5] at H
        have c5b0:decide ((ji3) < (l0.length:Int))=true:=decide_eq_true c5
        clear c5
        have H':=Aside0.mk H
        clear H
        have p171:0≤((ji3):Int):=of_decide_eq_true (by first|(with_reducible assumption)|assumption)
        have q171:(ji3) < (l0.length:Int):=of_decide_eq_true (by first|(with_reducible assumption)|assumption)
        obtain ⟨ad171,e171,hx171_0⟩:=Kd.at_int HR0.out (ji3) p171 q171
        cases e171
        replace p171:=eq_true p171
        replace q171:=eq_true q171
        go_enter Tryd.func89,Tryd.ntmps89
        go_wp2
        go_loopg [3,4] k (fun kq v3 v4 w'=>∃ (x3_1:Int) (x4_1:Int),v3=.int .i64 x3_1∧v4=.int .u32 x4_1∧Aside0 (bignum_length.l0 kq l0 x3_1 x4_1=some r)∧Aside0 (kq≤k)∧Drawn0 w w')
        case atStart=>exact ⟨(0),(rd l0 (ji3)),(by first|rfl|(simp;done)|(simp [*];done)),(by first|rfl|(simp;done)|(simp only [← hji3] <;> (first|rfl|simp))|(simp [*];done)),H',⟨Nat.le_refl _⟩,by repeat (first|exact Drawn0.refl _|apply Drawn0.step)⟩
        case round =>
          clear H'
          try clear p1
          try clear q1
          try clear hx1
          try clear c2
          try clear c2b0
          try clear c2b1
          try clear c2b2
          try clear p2
          try clear c4
          try clear c4b0
          try clear c5
          try clear c5b0
          try clear hx171_0
          try clear p171
          try clear q171
          obtain ⟨x3_1,x4_1,rfl,rfl,HA,HK1,⟨m1,rfl⟩⟩:=hrel
          cases gk with
          | zero=>exact absurd HA.out (by simp [bignum_length.l0])
          | succ k1 =>
            have H:=HA.out
            clear HA
            simp only [bignum_length.l0] at H
            by_cases c6:x4_1=0
            · rw [if_pos c6] at H
              have c6b0:(x4_1 == 0)=true:=beq_iff_eq.mpr c6
              have c6b1:(x4_1 != 0)=false:=bne_eq_false_iff_eq.mpr c6
              clear c6
              obtain rfl:=Option.some.inj H
              go_wp2
              go_ret
              exact ⟨by first|rfl|(simp;done)|(simp only [← hji3] <;> (first|rfl|simp))|(simp [*];done),by repeat (first|exact Drawn0.refl _|apply Drawn0.step)⟩
            · rw [if_neg c6] at H
              have c6b0:(x4_1 == 0)=false:=beq_eq_false_iff_ne.mpr c6
              have c6b1:(x4_1 != 0)=true:=bne_iff_ne.mpr c6
              have H':=Aside0.mk H
              clear H
              go_wp2
              go_roundg k1
              case measure=>have:=HK1.out;omega
              case rel=>exact ⟨(wrap64 (x3_1 + 1)),(x4_1 / 2),(by first|rfl|(simp;done)|(simp [*];done)),(by first|rfl|(simp;done)|(simp [*];done)),H',⟨by have:=HK1.out;omega⟩,by repeat (first|exact Drawn0.refl _|apply Drawn0.step)⟩
      · rw [if_neg c5] at H
        exact absurd H (by simp)
    · rw [if_neg c4] at H
      exact absurd H (by simp)
def bignum_bit.f (l0:List Int) (a1:Int):Option (Int):=if a1 < 0 then (some 0) else (if (wrap64 (Int.tdiv a1 32)) ≥ (l0.length:Int) then (some 0) else (if 0≤(wrap64 (Int.tdiv a1 32)) then (if (wrap64 (Int.tdiv a1 32)) < (l0.length:Int) then (if 0≤(Int.tmod (IntKind.u64.wrap (a1)) 32) then (some (Go.bits .and .u64 (IntKind.u64.wrap (shr .u32 (rd l0 (wrap64 (Int.tdiv a1 32))) (Int.tmod (IntKind.u64.wrap (a1)) 32))) 1)) else (none)) else (none)) else (none)))
set_option maxHeartbeats 8000000 in
set_option maxRecDepth 100000 in
theorem bignum_bit.calls (A0:Option Addr) (c0:Nat) (l0:List Int) (a1:Int) (r:Int) (w:World) (hr0:Kd.C (Kd.int .u32) w A0 l0.length l0) (hc0:l0.length≤c0) (h:bignum_bit.f l0 a1=some r) :
    Calls Tryd.prog 88 #[.slice A0 l0.length c0,.int .i64 a1] w fun e w'=>e=.returned (.int .u64 r)∧Drawn0 w w':=by
  have HR0:=Aside0.mk hr0
  have HC0:=Aside0.mk hc0
  clear hr0 hc0
  have H:(if a1 < 0 then (some 0) else (if (wrap64 (Int.tdiv a1 32)) ≥ (l0.length:Int) then (some 0) else (if 0≤(wrap64 (Int.tdiv a1 32)) then (if (wrap64 (Int.tdiv a1 32)) < (l0.length:Int) then (if 0≤(Int.tmod (IntKind.u64.wrap (a1)) 32) then (some (Go.bits .and .u64 (IntKind.u64.wrap (shr .u32 (rd l0 (wrap64 (Int.tdiv a1 32))) (Int.tmod (IntKind.u64.wrap (a1)) 32))) 1)) else (none)) else (none)) else (none))))=some r:=h
  clear h
  by_cases c3:a1 < 0
  · rw [if_pos c3] at H
    have c3b0:decide (a1 < 0)=true:=decide_eq_true c3
    clear c3
    obtain rfl:=Option.some.inj H
    go_enter Tryd.func88,Tryd.ntmps88
    go_wp2
    go_ret
    exact ⟨by first|rfl|(simp;done)|(simp [*];done),by repeat (first|exact Drawn0.refl _|apply Drawn0.step)⟩
  · rw [if_neg c3] at H
    have c3b0:decide (a1 < 0)=false:=decide_eq_false c3
    clear c3
    by_cases c4:(wrap64 (Int.tdiv a1 32)) ≥ (l0.length:Int)
    · rw [if_pos c4] at H
      have c4b0:decide ((l0.length:Int)≤(wrap64 (Int.tdiv a1 32)))=true:=decide_eq_true c4
      clear c4
      obtain rfl:=Option.some.inj H
      go_enter Tryd.func88,Tryd.ntmps88
      go_wp2
      go_ret
      exact ⟨by first|rfl|(simp;done)|(simp [*];done),by repeat (first|exact Drawn0.refl _|apply Drawn0.step)⟩
    · rw [if_neg c4] at H
      have c4b0:decide ((l0.length:Int)≤(wrap64 (Int.tdiv a1 32)))=false:=decide_eq_false c4
      clear c4
      obtain ⟨ji5,hji5⟩:∃ j_:Int,(wrap64 (Int.tdiv a1 32))=j_:=⟨_,rfl⟩
      replace H:(if 0≤(ji5) then (if (ji5) < (l0.length:Int) then (if 0≤(Int.tmod (IntKind.u64.wrap (a1)) 32) then (some (Go.bits .and .u64 (IntKind.u64.wrap (shr .u32 (rd l0 (ji5)) (Int.tmod (IntKind.u64.wrap (a1)) 32))) 1)) else (none)) else (none)) else (none))=some r:=by first|(rw [hji5] at H;exact H)|(simp only [hji5] at H ⊢;exact H)
      (try rw [hji5] at c4b0)
      have hji5w:(IntKind.i64.wrap (Int.tdiv a1 32))=ji5:=(i64_w _).trans hji5
      by_cases c6:0≤(ji5)
      · rw [if_pos c6] at H
        have c6b0:decide (0≤(ji5))=true:=decide_eq_true c6
        clear c6
        by_cases c7:(ji5) < (l0.length:Int)
        · rw [if_pos c7] at H
          have c7b0:decide ((ji5) < (l0.length:Int))=true:=decide_eq_true c7
          clear c7
          obtain ⟨ji8,hji8⟩:∃ j_:Int,(Int.tmod (IntKind.u64.wrap (a1)) 32)=j_:=⟨_,rfl⟩
          replace H:(if 0≤(ji8) then (some (Go.bits .and .u64 (IntKind.u64.wrap (shr .u32 (rd l0 (ji5)) (ji8))) 1)) else (none))=some r:=by first|(rw [hji8] at H;exact H)|(simp only [hji8] at H ⊢;exact H)
          by_cases c9:0≤(ji8)
          · rw [if_pos c9] at H
            have c9b0:=eq_true c9
            have c9b1:decide (0≤(ji8))=true:=decide_eq_true c9
            clear c9
            obtain ⟨ji10,hji10⟩:∃ j_:Int,(shr .u32 (rd l0 (ji5)) (ji8))=j_:=⟨_,rfl⟩
            replace H:(some (Go.bits .and .u64 (IntKind.u64.wrap (ji10)) 1))=some r:=by first|(rw [hji10] at H;exact H)|(simp only [hji10] at H ⊢;exact H)
            have hji10_:((rd l0 (ji5)) / 2 ^ min (ji8).toNat 32)=ji10:=hji10
            have hji10z:(ji8)≤32→((rd l0 (ji5)) / 2 ^ (ji8).toNat)=ji10:=shr_small hji10
            obtain rfl:=Option.some.inj H
            have p172:0≤((ji5):Int):=of_decide_eq_true (by first|(with_reducible assumption)|assumption)
            have q172:(ji5) < (l0.length:Int):=of_decide_eq_true (by first|(with_reducible assumption)|assumption)
            obtain ⟨ad172,e172,hx172_0⟩:=Kd.at_int HR0.out (ji5) p172 q172
            cases e172
            replace p172:=eq_true p172
            replace q172:=eq_true q172
            go_enter Tryd.func88,Tryd.ntmps88
            go_wp2
            go_ret
            exact ⟨by first|rfl|(simp;done)|(simp only [← hji5,← hji8,← hji10] <;> (first|rfl|simp))|(simp [*];done),by repeat (first|exact Drawn0.refl _|apply Drawn0.step)⟩
          · rw [if_neg c9] at H
            exact absurd H (by simp)
        · rw [if_neg c7] at H
          exact absurd H (by simp)
      · rw [if_neg c6] at H
        exact absurd H (by simp)
def dyad_Right.f (a0_0:Bool) (l0_1:List Int) (a0_2:Int):Option (Bool):=if (l0_1.length:Int)=0 then (if a0_0=true then (some false) else (some (a0_2 == 0))) else (if (l0_1.length:Int)≤256 then (if 0≤(wrap64 ((l0_1.length:Int) - 1)) then (if (wrap64 ((l0_1.length:Int) - 1)) < (l0_1.length:Int) then (if (rd l0_1 (wrap64 ((l0_1.length:Int) - 1)))=0 then (some false) else (if 0 < (l0_1.length:Int) then (if (Go.bits .and .u64 (rd l0_1 0) 1)=1 then (if (-65536)≤a0_2 then (some (decide (a0_2≤65536))) else (some false)) else (some false)) else (none))) else (none)) else (none)) else (some false))
set_option maxHeartbeats 8000000 in
set_option maxRecDepth 100000 in
theorem dyad_Right.calls (a0_0:Bool) (A0_1:Option Addr) (c0_1:Nat) (l0_1:List Int) (a0_2:Int) (r:Bool) (w:World) (hr0_1:Kd.C (Kd.int .u64) w A0_1 l0_1.length l0_1) (hc0_1:l0_1.length≤c0_1) (h:dyad_Right.f a0_0 l0_1 a0_2=some r) :
    Calls Tryd.prog 48 #[.agg #[.bool a0_0,.slice A0_1 l0_1.length c0_1,.int .i64 a0_2]] w fun e w'=>e=.returned (.bool r)∧Below w.heap.size w w':=by
  have hu44:=Tryd.underlying44
  have HR0_1:=Aside0.mk hr0_1
  have HC0_1:=Aside0.mk hc0_1
  clear hr0_1 hc0_1
  have HB:=Aside0.mk (Below.refl w.heap.size w)
  have H:(if (l0_1.length:Int)=0 then (if a0_0=true then (some false) else (some (a0_2 == 0))) else (if (l0_1.length:Int)≤256 then (if 0≤(wrap64 ((l0_1.length:Int) - 1)) then (if (wrap64 ((l0_1.length:Int) - 1)) < (l0_1.length:Int) then (if (rd l0_1 (wrap64 ((l0_1.length:Int) - 1)))=0 then (some false) else (if 0 < (l0_1.length:Int) then (if (Go.bits .and .u64 (rd l0_1 0) 1)=1 then (if (-65536)≤a0_2 then (some (decide (a0_2≤65536))) else (some false)) else (some false)) else (none))) else (none)) else (none)) else (some false)))=some r:=h
  clear h
  by_cases c2:(l0_1.length:Int)=0
  · rw [if_pos c2] at H
    have c2b0:((l0_1.length:Int) == 0)=true:=beq_iff_eq.mpr c2
    have c2b1:((l0_1.length:Int) != 0)=false:=bne_eq_false_iff_eq.mpr c2
    clear c2
    by_cases c3:a0_0=true
    · subst c3
      have H1:(some false)=some r:=by rw [if_pos rfl] at H;exact H
      clear H
      have H:=H1
      clear H1
      obtain rfl:=Option.some.inj H
      go_enter Tryd.func48,Tryd.ntmps48
      go_wp2_with (first|((with_reducible refine gate_dst (N:=1) rfl ?_);refine box_event ?hg (N:=1) ?hd (cs:=#[.bool true,.slice A0_1 l0_1.length c0_1,.int .i64 a0_2]) (t:=44) ?hr ?_;(case hd=>rfl);(case hg=>rfl);(case hr=>first|(go_simp;done)|(go_simp;rfl));intro gb173 hg w4 hbox hb;have n0_:=Aside0.mk (below_step (by repeat (first|(with_reducible first|exact HB.out|apply below_alloc|apply pw_below_drewN|apply below_drew1)|exact HB.out)) hb);have n1_:=Aside0.mk (hbox);have n2_:=Aside0.mk ((by rw [hg];exact (below_size (by repeat (first|(with_reducible first|exact HB.out|apply below_alloc|apply pw_below_drewN|apply below_drew1)|exact HB.out))):w.heap.size≤gb173));have n3_:=Aside0.mk ((by rw [hg];exact (below_size (by repeat (first|(with_reducible first|exact HB.out|apply below_alloc|apply pw_below_drewN|apply below_drew1)|exact HB.out))):w.heap.size≤gb173));clear HB;have HB:=n0_;have BK173:=n1_;have GW173:=n2_;have GE173:=n3_;clear n0_ n1_ n2_ n3_;clear hb hbox hg;have hcz5_0:w4.cell? ⟨gb173,0,none⟩=some (.bool true):=(blk_cell BK173.out 0).trans rfl;have hcz5_1:w4.cell? ⟨gb173,1,none⟩=some (.slice A0_1 l0_1.length c0_1):=(blk_cell BK173.out 1).trans rfl;have hcz5_2:w4.cell? ⟨gb173,2,none⟩=some (.int .i64 a0_2):=(blk_cell BK173.out 2).trans rfl;have hfz5_0:=blk_frozen BK173.out 0;have hfz5_1:=blk_frozen BK173.out 1;have hfz5_2:=blk_frozen BK173.out 2))
      go_ret
      exact ⟨by first|rfl|(simp [errW_none,errW_some] <;> rfl)|(simp [*,errW_none,errW_some] <;> rfl),by repeat (first|(with_reducible first|exact HB.out|apply below_alloc|apply pw_below_drewN|apply below_drew1|refine below_set ?_ GE173.out)|exact HB.out)⟩
    · replace c3:=Bool.eq_false_iff.mpr c3
      subst c3
      have H1:(some (a0_2 == 0))=some r:=by rw [if_neg (show ¬ (false=true) by decide)] at H;exact H
      clear H
      have H:=H1
      clear H1
      obtain rfl:=Option.some.inj H
      go_enter Tryd.func48,Tryd.ntmps48
      go_wp2_with (first|((with_reducible refine gate_dst (N:=1) rfl ?_);refine box_event ?hg (N:=1) ?hd (cs:=#[.bool false,.slice A0_1 l0_1.length c0_1,.int .i64 a0_2]) (t:=44) ?hr ?_;(case hd=>rfl);(case hg=>rfl);(case hr=>first|(go_simp;done)|(go_simp;rfl));intro gb173 hg w6 hbox hb;have n0_:=Aside0.mk (below_step (by repeat (first|(with_reducible first|exact HB.out|apply below_alloc|apply pw_below_drewN|apply below_drew1)|exact HB.out)) hb);have n1_:=Aside0.mk (hbox);have n2_:=Aside0.mk ((by rw [hg];exact (below_size (by repeat (first|(with_reducible first|exact HB.out|apply below_alloc|apply pw_below_drewN|apply below_drew1)|exact HB.out))):w.heap.size≤gb173));have n3_:=Aside0.mk ((by rw [hg];exact (below_size (by repeat (first|(with_reducible first|exact HB.out|apply below_alloc|apply pw_below_drewN|apply below_drew1)|exact HB.out))):w.heap.size≤gb173));clear HB;have HB:=n0_;have BK173:=n1_;have GW173:=n2_;have GE173:=n3_;clear n0_ n1_ n2_ n3_;clear hb hbox hg;have hcz7_0:w6.cell? ⟨gb173,0,none⟩=some (.bool false):=(blk_cell BK173.out 0).trans rfl;have hcz7_1:w6.cell? ⟨gb173,1,none⟩=some (.slice A0_1 l0_1.length c0_1):=(blk_cell BK173.out 1).trans rfl;have hcz7_2:w6.cell? ⟨gb173,2,none⟩=some (.int .i64 a0_2):=(blk_cell BK173.out 2).trans rfl;have hfz7_0:=blk_frozen BK173.out 0;have hfz7_1:=blk_frozen BK173.out 1;have hfz7_2:=blk_frozen BK173.out 2))
      go_ret
      exact ⟨by first|rfl|(simp [errW_none,errW_some] <;> rfl)|(simp [*,errW_none,errW_some] <;> rfl),by repeat (first|(with_reducible first|exact HB.out|apply below_alloc|apply pw_below_drewN|apply below_drew1|refine below_set ?_ GE173.out)|exact HB.out)⟩
  · rw [if_neg c2] at H
    have c2b0:((l0_1.length:Int) == 0)=false:=beq_eq_false_iff_ne.mpr c2
    have c2b1:((l0_1.length:Int) != 0)=true:=bne_iff_ne.mpr c2
    have c2b2:¬ (l0_1=[]):=fun h_=>c2 (by rw [h_];rfl)
    by_cases c8:(l0_1.length:Int)≤256
    · rw [if_pos c8] at H
      have c8b0:decide ((l0_1.length:Int)≤256)=true:=decide_eq_true c8
      have c8b1:decide (l0_1.length≤256)=true:=decide_eq_true (by omega)
      clear c8
      obtain ⟨ji9,hji9⟩:∃ j_:Int,(wrap64 ((l0_1.length:Int) - 1))=j_:=⟨_,rfl⟩
      replace H:(if 0≤(ji9) then (if (ji9) < (l0_1.length:Int) then (if (rd l0_1 (ji9))=0 then (some false) else (if 0 < (l0_1.length:Int) then (if (Go.bits .and .u64 (rd l0_1 0) 1)=1 then (if (-65536)≤a0_2 then (some (decide (a0_2≤65536))) else (some false)) else (some false)) else (none))) else (none)) else (none))=some r:=by first|(rw [hji9] at H;exact H)|(simp only [hji9] at H ⊢;exact H)
      have hji9w:(IntKind.i64.wrap ((l0_1.length:Int) - 1))=ji9:=(i64_w _).trans hji9
      by_cases c10:0≤(ji9)
      · rw [if_pos c10] at H
        have c10b0:decide (0≤(ji9))=true:=decide_eq_true c10
        clear c10
        by_cases c11:(ji9) < (l0_1.length:Int)
        · rw [if_pos c11] at H
          have c11b0:decide ((ji9) < (l0_1.length:Int))=true:=decide_eq_true c11
          clear c11
          by_cases c12:(rd l0_1 (ji9))=0
          · rw [if_pos c12] at H
            have c12b0:((rd l0_1 (ji9)) == 0)=true:=beq_iff_eq.mpr c12
            have c12b1:((rd l0_1 (ji9)) != 0)=false:=bne_eq_false_iff_eq.mpr c12
            clear c12
            obtain rfl:=Option.some.inj H
            go_enter Tryd.func48,Tryd.ntmps48
            go_wp2_with (first|((with_reducible refine gate_dst (N:=1) rfl ?_);refine box_event ?hg (N:=1) ?hd (cs:=#[.bool a0_0,.slice A0_1 l0_1.length c0_1,.int .i64 a0_2]) (t:=44) ?hr ?_;(case hd=>rfl);(case hg=>rfl);(case hr=>first|(go_simp;done)|(go_simp;rfl));intro gb173 hg w13 hbox hb;have n0_:=Aside0.mk (below_step (by repeat (first|(with_reducible first|exact HB.out|apply below_alloc|apply pw_below_drewN|apply below_drew1)|exact HB.out)) hb);have n1_:=Aside0.mk (hbox);have n2_:=Aside0.mk ((by rw [hg];exact (below_size (by repeat (first|(with_reducible first|exact HB.out|apply below_alloc|apply pw_below_drewN|apply below_drew1)|exact HB.out))):w.heap.size≤gb173));have n3_:=Aside0.mk ((by rw [hg];exact (below_size (by repeat (first|(with_reducible first|exact HB.out|apply below_alloc|apply pw_below_drewN|apply below_drew1)|exact HB.out))):w.heap.size≤gb173));clear HB;have HB:=n0_;have BK173:=n1_;have GW173:=n2_;have GE173:=n3_;clear n0_ n1_ n2_ n3_;clear hb hbox hg;have hcz14_0:w13.cell? ⟨gb173,0,none⟩=some (.bool a0_0):=(blk_cell BK173.out 0).trans rfl;have hcz14_1:w13.cell? ⟨gb173,1,none⟩=some (.slice A0_1 l0_1.length c0_1):=(blk_cell BK173.out 1).trans rfl;have hcz14_2:w13.cell? ⟨gb173,2,none⟩=some (.int .i64 a0_2):=(blk_cell BK173.out 2).trans rfl;have hfz14_0:=blk_frozen BK173.out 0;have hfz14_1:=blk_frozen BK173.out 1;have hfz14_2:=blk_frozen BK173.out 2;have p174:0≤((ji9):Int):=of_decide_eq_true (by first|(with_reducible assumption)|assumption);have q174:(ji9) < (l0_1.length:Int):=of_decide_eq_true (by first|(with_reducible assumption)|assumption);obtain ⟨ad174,e174,hx174_0⟩:=Kd.at_int HR0_1.out (ji9) p174 q174;cases e174;replace hx174_0:=(HB.out.cell (World.block_lt_of_cell? w _ hx174_0)).trans hx174_0;replace p174:=eq_true p174;replace q174:=eq_true q174))
            go_ret
            exact ⟨by first|rfl|(simp [errW_none,errW_some] <;> rfl)|(simp only [← hji9];first|rfl|(simp [errW_none,errW_some] <;> rfl))|(simp [*,errW_none,errW_some] <;> rfl),by repeat (first|(with_reducible first|exact HB.out|apply below_alloc|apply pw_below_drewN|apply below_drew1|refine below_set ?_ GE173.out)|exact HB.out)⟩
          · rw [if_neg c12] at H
            have c12b0:((rd l0_1 (ji9)) == 0)=false:=beq_eq_false_iff_ne.mpr c12
            have c12b1:((rd l0_1 (ji9)) != 0)=true:=bne_iff_ne.mpr c12
            by_cases c15:0 < (l0_1.length:Int)
            · rw [if_pos c15] at H
              have c15b0:decide (0 < (l0_1.length:Int))=true:=decide_eq_true c15
              have c15b1:decide (0 < l0_1.length)=true:=decide_eq_true (by omega)
              clear c15
              by_cases c16:(Go.bits .and .u64 (rd l0_1 0) 1)=1
              · rw [if_pos c16] at H
                have c16b0:((Go.bits .and .u64 (rd l0_1 0) 1) == 1)=true:=beq_iff_eq.mpr c16
                have c16b1:((Go.bits .and .u64 (rd l0_1 0) 1) != 1)=false:=bne_eq_false_iff_eq.mpr c16
                clear c16
                by_cases c17:(-65536)≤a0_2
                · rw [if_pos c17] at H
                  have c17b0:decide ((-65536)≤a0_2)=true:=decide_eq_true c17
                  clear c17
                  obtain rfl:=Option.some.inj H
                  go_enter Tryd.func48,Tryd.ntmps48
                  go_wp2_with (first|((with_reducible refine gate_dst (N:=1) rfl ?_);refine box_event ?hg (N:=1) ?hd (cs:=#[.bool a0_0,.slice A0_1 l0_1.length c0_1,.int .i64 a0_2]) (t:=44) ?hr ?_;(case hd=>rfl);(case hg=>rfl);(case hr=>first|(go_simp;done)|(go_simp;rfl));intro gb173 hg w18 hbox hb;have n0_:=Aside0.mk (below_step (by repeat (first|(with_reducible first|exact HB.out|apply below_alloc|apply pw_below_drewN|apply below_drew1)|exact HB.out)) hb);have n1_:=Aside0.mk (hbox);have n2_:=Aside0.mk ((by rw [hg];exact (below_size (by repeat (first|(with_reducible first|exact HB.out|apply below_alloc|apply pw_below_drewN|apply below_drew1)|exact HB.out))):w.heap.size≤gb173));have n3_:=Aside0.mk ((by rw [hg];exact (below_size (by repeat (first|(with_reducible first|exact HB.out|apply below_alloc|apply pw_below_drewN|apply below_drew1)|exact HB.out))):w.heap.size≤gb173));clear HB;have HB:=n0_;have BK173:=n1_;have GW173:=n2_;have GE173:=n3_;clear n0_ n1_ n2_ n3_;clear hb hbox hg;have hcz19_0:w18.cell? ⟨gb173,0,none⟩=some (.bool a0_0):=(blk_cell BK173.out 0).trans rfl;have hcz19_1:w18.cell? ⟨gb173,1,none⟩=some (.slice A0_1 l0_1.length c0_1):=(blk_cell BK173.out 1).trans rfl;have hcz19_2:w18.cell? ⟨gb173,2,none⟩=some (.int .i64 a0_2):=(blk_cell BK173.out 2).trans rfl;have hfz19_0:=blk_frozen BK173.out 0;have hfz19_1:=blk_frozen BK173.out 1;have hfz19_2:=blk_frozen BK173.out 2;have p174:0≤((ji9):Int):=of_decide_eq_true (by first|(with_reducible assumption)|assumption);have q174:(ji9) < (l0_1.length:Int):=of_decide_eq_true (by first|(with_reducible assumption)|assumption);obtain ⟨ad174,e174,hx174_0⟩:=Kd.at_int HR0_1.out (ji9) p174 q174;cases e174;replace hx174_0:=(HB.out.cell (World.block_lt_of_cell? w _ hx174_0)).trans hx174_0;replace p174:=eq_true p174;replace q174:=eq_true q174;have p175:0≤(0:Int):=(by omega);have q175:0 < (l0_1.length:Int):=of_decide_eq_true (by first|(with_reducible assumption)|assumption);obtain ⟨ad175,e175,hx175_0⟩:=Kd.at_int HR0_1.out 0 p175 q175;obtain rfl:ad174=ad175:=(by injection e175);have qi175:(0 < l0_1.length)=True:=eq_true (by omega);(try rw [show ((0:Int)).toNat=0 from rfl] at hx175_0);(try rw [Addr.add_zero'] at hx175_0);replace hx175_0:=(HB.out.cell (World.block_lt_of_cell? w _ hx175_0)).trans hx175_0;replace p175:=eq_true p175;replace q175:=eq_true q175))
                  go_ret
                  exact ⟨by first|rfl|(simp [errW_none,errW_some] <;> rfl)|(simp only [← hji9];first|rfl|(simp [errW_none,errW_some] <;> rfl))|(simp [*,errW_none,errW_some] <;> rfl),by repeat (first|(with_reducible first|exact HB.out|apply below_alloc|apply pw_below_drewN|apply below_drew1|refine below_set ?_ GE173.out)|exact HB.out)⟩
                · rw [if_neg c17] at H
                  have c17b0:decide ((-65536)≤a0_2)=false:=decide_eq_false c17
                  clear c17
                  obtain rfl:=Option.some.inj H
                  go_enter Tryd.func48,Tryd.ntmps48
                  go_wp2_with (first|((with_reducible refine gate_dst (N:=1) rfl ?_);refine box_event ?hg (N:=1) ?hd (cs:=#[.bool a0_0,.slice A0_1 l0_1.length c0_1,.int .i64 a0_2]) (t:=44) ?hr ?_;(case hd=>rfl);(case hg=>rfl);(case hr=>first|(go_simp;done)|(go_simp;rfl));intro gb173 hg w20 hbox hb;have n0_:=Aside0.mk (below_step (by repeat (first|(with_reducible first|exact HB.out|apply below_alloc|apply pw_below_drewN|apply below_drew1)|exact HB.out)) hb);have n1_:=Aside0.mk (hbox);have n2_:=Aside0.mk ((by rw [hg];exact (below_size (by repeat (first|(with_reducible first|exact HB.out|apply below_alloc|apply pw_below_drewN|apply below_drew1)|exact HB.out))):w.heap.size≤gb173));have n3_:=Aside0.mk ((by rw [hg];exact (below_size (by repeat (first|(with_reducible first|exact HB.out|apply below_alloc|apply pw_below_drewN|apply below_drew1)|exact HB.out))):w.heap.size≤gb173));clear HB;have HB:=n0_;have BK173:=n1_;have GW173:=n2_;have GE173:=n3_;clear n0_ n1_ n2_ n3_;clear hb hbox hg;have hcz21_0:w20.cell? ⟨gb173,0,none⟩=some (.bool a0_0):=(blk_cell BK173.out 0).trans rfl;have hcz21_1:w20.cell? ⟨gb173,1,none⟩=some (.slice A0_1 l0_1.length c0_1):=(blk_cell BK173.out 1).trans rfl;have hcz21_2:w20.cell? ⟨gb173,2,none⟩=some (.int .i64 a0_2):=(blk_cell BK173.out 2).trans rfl;have hfz21_0:=blk_frozen BK173.out 0;have hfz21_1:=blk_frozen BK173.out 1;have hfz21_2:=blk_frozen BK173.out 2;have p174:0≤((ji9):Int):=of_decide_eq_true (by first|(with_reducible assumption)|assumption);have q174:(ji9) < (l0_1.length:Int):=of_decide_eq_true (by first|(with_reducible assumption)|assumption);obtain ⟨ad174,e174,hx174_0⟩:=Kd.at_int HR0_1.out (ji9) p174 q174;cases e174;replace hx174_0:=(HB.out.cell (World.block_lt_of_cell? w _ hx174_0)).trans hx174_0;replace p174:=eq_true p174;replace q174:=eq_true q174;have p175:0≤(0:Int):=(by omega);have q175:0 < (l0_1.length:Int):=of_decide_eq_true (by first|(with_reducible assumption)|assumption);obtain ⟨ad175,e175,hx175_0⟩:=Kd.at_int HR0_1.out 0 p175 q175;obtain rfl:ad174=ad175:=(by injection e175);have qi175:(0 < l0_1.length)=True:=eq_true (by omega);(try rw [show ((0:Int)).toNat=0 from rfl] at hx175_0);(try rw [Addr.add_zero'] at hx175_0);replace hx175_0:=(HB.out.cell (World.block_lt_of_cell? w _ hx175_0)).trans hx175_0;replace p175:=eq_true p175;replace q175:=eq_true q175))
                  go_ret
                  exact ⟨by first|rfl|(simp [errW_none,errW_some] <;> rfl)|(simp only [← hji9];first|rfl|(simp [errW_none,errW_some] <;> rfl))|(simp [*,errW_none,errW_some] <;> rfl),by repeat (first|(with_reducible first|exact HB.out|apply below_alloc|apply pw_below_drewN|apply below_drew1|refine below_set ?_ GE173.out)|exact HB.out)⟩
              · rw [if_neg c16] at H
                have c16b0:((Go.bits .and .u64 (rd l0_1 0) 1) == 1)=false:=beq_eq_false_iff_ne.mpr c16
                have c16b1:((Go.bits .and .u64 (rd l0_1 0) 1) != 1)=true:=bne_iff_ne.mpr c16
                obtain rfl:=Option.some.inj H
                go_enter Tryd.func48,Tryd.ntmps48
                go_wp2_with (first|((with_reducible refine gate_dst (N:=1) rfl ?_);refine box_event ?hg (N:=1) ?hd (cs:=#[.bool a0_0,.slice A0_1 l0_1.length c0_1,.int .i64 a0_2]) (t:=44) ?hr ?_;(case hd=>rfl);(case hg=>rfl);(case hr=>first|(go_simp;done)|(go_simp;rfl));intro gb173 hg w22 hbox hb;have n0_:=Aside0.mk (below_step (by repeat (first|(with_reducible first|exact HB.out|apply below_alloc|apply pw_below_drewN|apply below_drew1)|exact HB.out)) hb);have n1_:=Aside0.mk (hbox);have n2_:=Aside0.mk ((by rw [hg];exact (below_size (by repeat (first|(with_reducible first|exact HB.out|apply below_alloc|apply pw_below_drewN|apply below_drew1)|exact HB.out))):w.heap.size≤gb173));have n3_:=Aside0.mk ((by rw [hg];exact (below_size (by repeat (first|(with_reducible first|exact HB.out|apply below_alloc|apply pw_below_drewN|apply below_drew1)|exact HB.out))):w.heap.size≤gb173));clear HB;have HB:=n0_;have BK173:=n1_;have GW173:=n2_;have GE173:=n3_;clear n0_ n1_ n2_ n3_;clear hb hbox hg;have hcz23_0:w22.cell? ⟨gb173,0,none⟩=some (.bool a0_0):=(blk_cell BK173.out 0).trans rfl;have hcz23_1:w22.cell? ⟨gb173,1,none⟩=some (.slice A0_1 l0_1.length c0_1):=(blk_cell BK173.out 1).trans rfl;have hcz23_2:w22.cell? ⟨gb173,2,none⟩=some (.int .i64 a0_2):=(blk_cell BK173.out 2).trans rfl;have hfz23_0:=blk_frozen BK173.out 0;have hfz23_1:=blk_frozen BK173.out 1;have hfz23_2:=blk_frozen BK173.out 2;have p174:0≤((ji9):Int):=of_decide_eq_true (by first|(with_reducible assumption)|assumption);have q174:(ji9) < (l0_1.length:Int):=of_decide_eq_true (by first|(with_reducible assumption)|assumption);obtain ⟨ad174,e174,hx174_0⟩:=Kd.at_int HR0_1.out (ji9) p174 q174;cases e174;replace hx174_0:=(HB.out.cell (World.block_lt_of_cell? w _ hx174_0)).trans hx174_0;replace p174:=eq_true p174;replace q174:=eq_true q174;have p175:0≤(0:Int):=(by omega);have q175:0 < (l0_1.length:Int):=of_decide_eq_true (by first|(with_reducible assumption)|assumption);obtain ⟨ad175,e175,hx175_0⟩:=Kd.at_int HR0_1.out 0 p175 q175;obtain rfl:ad174=ad175:=(by injection e175);have qi175:(0 < l0_1.length)=True:=eq_true (by omega);(try rw [show ((0:Int)).toNat=0 from rfl] at hx175_0);(try rw [Addr.add_zero'] at hx175_0);replace hx175_0:=(HB.out.cell (World.block_lt_of_cell? w _ hx175_0)).trans hx175_0;replace p175:=eq_true p175;replace q175:=eq_true q175))
                go_ret
                exact ⟨by first|rfl|(simp [errW_none,errW_some] <;> rfl)|(simp only [← hji9];first|rfl|(simp [errW_none,errW_some] <;> rfl))|(simp [*,errW_none,errW_some] <;> rfl),by repeat (first|(with_reducible first|exact HB.out|apply below_alloc|apply pw_below_drewN|apply below_drew1|refine below_set ?_ GE173.out)|exact HB.out)⟩
            · rw [if_neg c15] at H
              exact absurd H (by simp)
        · rw [if_neg c11] at H
          exact absurd H (by simp)
      · rw [if_neg c10] at H
        exact absurd H (by simp)
    · rw [if_neg c8] at H
      have c8b0:decide ((l0_1.length:Int)≤256)=false:=decide_eq_false c8
      have c8b1:decide (l0_1.length≤256)=false:=decide_eq_false (by omega)
      clear c8
      obtain rfl:=Option.some.inj H
      go_enter Tryd.func48,Tryd.ntmps48
      go_wp2_with (first|((with_reducible refine gate_dst (N:=1) rfl ?_);refine box_event ?hg (N:=1) ?hd (cs:=#[.bool a0_0,.slice A0_1 l0_1.length c0_1,.int .i64 a0_2]) (t:=44) ?hr ?_;(case hd=>rfl);(case hg=>rfl);(case hr=>first|(go_simp;done)|(go_simp;rfl));intro gb173 hg w24 hbox hb;have n0_:=Aside0.mk (below_step (by repeat (first|(with_reducible first|exact HB.out|apply below_alloc|apply pw_below_drewN|apply below_drew1)|exact HB.out)) hb);have n1_:=Aside0.mk (hbox);have n2_:=Aside0.mk ((by rw [hg];exact (below_size (by repeat (first|(with_reducible first|exact HB.out|apply below_alloc|apply pw_below_drewN|apply below_drew1)|exact HB.out))):w.heap.size≤gb173));have n3_:=Aside0.mk ((by rw [hg];exact (below_size (by repeat (first|(with_reducible first|exact HB.out|apply below_alloc|apply pw_below_drewN|apply below_drew1)|exact HB.out))):w.heap.size≤gb173));clear HB;have HB:=n0_;have BK173:=n1_;have GW173:=n2_;have GE173:=n3_;clear n0_ n1_ n2_ n3_;clear hb hbox hg;have hcz25_0:w24.cell? ⟨gb173,0,none⟩=some (.bool a0_0):=(blk_cell BK173.out 0).trans rfl;have hcz25_1:w24.cell? ⟨gb173,1,none⟩=some (.slice A0_1 l0_1.length c0_1):=(blk_cell BK173.out 1).trans rfl;have hcz25_2:w24.cell? ⟨gb173,2,none⟩=some (.int .i64 a0_2):=(blk_cell BK173.out 2).trans rfl;have hfz25_0:=blk_frozen BK173.out 0;have hfz25_1:=blk_frozen BK173.out 1;have hfz25_2:=blk_frozen BK173.out 2))
      go_ret
      exact ⟨by first|rfl|(simp [errW_none,errW_some] <;> rfl)|(simp [*,errW_none,errW_some] <;> rfl),by repeat (first|(with_reducible first|exact HB.out|apply below_alloc|apply pw_below_drewN|apply below_drew1|refine below_set ?_ GE173.out)|exact HB.out)⟩
def dyad_away.f (a0:Int) (a1:Bool) (a2:Int) (a3:Bool):Option (Bool):=if a0=1 then (some a1) else (if a0=2 then (some (!a1)) else (if a0=3 then (some false) else (if a2 > 0 then (some true) else (if a2=0 then (some a3) else (some false)))))
set_option maxHeartbeats 8000000 in
set_option maxRecDepth 100000 in
theorem dyad_away.calls (a0:Int) (a1:Bool) (a2:Int) (a3:Bool) (r:Bool) (w:World) (h:dyad_away.f a0 a1 a2 a3=some r) :
    Calls Tryd.prog 56 #[.int .i8 a0,.bool a1,.int .i64 a2,.bool a3] w fun e w'=>e=.returned (.bool r)∧Drawn0 w w':=by
  have H:(if a0=1 then (some a1) else (if a0=2 then (some (!a1)) else (if a0=3 then (some false) else (if a2 > 0 then (some true) else (if a2=0 then (some a3) else (some false))))))=some r:=h
  clear h
  by_cases c5:a0=1
  · rw [if_pos c5] at H
    have c5b0:(a0 == 1)=true:=beq_iff_eq.mpr c5
    have c5b1:(a0 != 1)=false:=bne_eq_false_iff_eq.mpr c5
    clear c5
    obtain rfl:=Option.some.inj H
    go_enter Tryd.func56,Tryd.ntmps56
    go_wp2
    go_ret
    exact ⟨by first|rfl|(simp;done)|(simp [*];done),by repeat (first|exact Drawn0.refl _|apply Drawn0.step)⟩
  · rw [if_neg c5] at H
    have c5b0:(a0 == 1)=false:=beq_eq_false_iff_ne.mpr c5
    have c5b1:(a0 != 1)=true:=bne_iff_ne.mpr c5
    by_cases c6:a0=2
    · rw [if_pos c6] at H
      have c6b0:(a0 == 2)=true:=beq_iff_eq.mpr c6
      have c6b1:(a0 != 2)=false:=bne_eq_false_iff_eq.mpr c6
      clear c6
      obtain rfl:=Option.some.inj H
      go_enter Tryd.func56,Tryd.ntmps56
      go_wp2
      go_ret
      exact ⟨by first|rfl|(simp;done)|(simp [*];done),by repeat (first|exact Drawn0.refl _|apply Drawn0.step)⟩
    · rw [if_neg c6] at H
      have c6b0:(a0 == 2)=false:=beq_eq_false_iff_ne.mpr c6
      have c6b1:(a0 != 2)=true:=bne_iff_ne.mpr c6
      by_cases c7:a0=3
      · rw [if_pos c7] at H
        have c7b0:(a0 == 3)=true:=beq_iff_eq.mpr c7
        have c7b1:(a0 != 3)=false:=bne_eq_false_iff_eq.mpr c7
        clear c7
        obtain rfl:=Option.some.inj H
        go_enter Tryd.func56,Tryd.ntmps56
        go_wp2
        go_ret
        exact ⟨by first|rfl|(simp;done)|(simp [*];done),by repeat (first|exact Drawn0.refl _|apply Drawn0.step)⟩
      · rw [if_neg c7] at H
        have c7b0:(a0 == 3)=false:=beq_eq_false_iff_ne.mpr c7
        have c7b1:(a0 != 3)=true:=bne_iff_ne.mpr c7
        by_cases c8:a2 > 0
        · rw [if_pos c8] at H
          have c8b0:decide (0 < a2)=true:=decide_eq_true c8
          clear c8
          obtain rfl:=Option.some.inj H
          go_enter Tryd.func56,Tryd.ntmps56
          go_wp2
          go_ret
          exact ⟨by first|rfl|(simp;done)|(simp [*];done),by repeat (first|exact Drawn0.refl _|apply Drawn0.step)⟩
        · rw [if_neg c8] at H
          have c8b0:decide (0 < a2)=false:=decide_eq_false c8
          clear c8
          by_cases c9:a2=0
          · rw [if_pos c9] at H
            have c9b0:(a2 == 0)=true:=beq_iff_eq.mpr c9
            have c9b1:(a2 != 0)=false:=bne_eq_false_iff_eq.mpr c9
            clear c9
            obtain rfl:=Option.some.inj H
            go_enter Tryd.func56,Tryd.ntmps56
            go_wp2
            go_ret
            exact ⟨by first|rfl|(simp;done)|(simp [*];done),by repeat (first|exact Drawn0.refl _|apply Drawn0.step)⟩
          · rw [if_neg c9] at H
            have c9b0:(a2 == 0)=false:=beq_eq_false_iff_ne.mpr c9
            have c9b1:(a2 != 0)=true:=bne_iff_ne.mpr c9
            obtain rfl:=Option.some.inj H
            go_enter Tryd.func56,Tryd.ntmps56
            go_wp2
            go_ret
            exact ⟨by first|rfl|(simp;done)|(simp [*];done),by repeat (first|exact Drawn0.refl _|apply Drawn0.step)⟩
def IsS76 (w0 W:World) (g:Nat) (f0:Bool) (f1:List Int):Prop:=∃ A1 c1,W.heap[g]?=some (.cells #[.bool f0,.slice A1 f1.length c1] 76 (0,0))∧w0.heap.size≤g∧Kd.C (Kd.int .u32) w0 A1 f1.length f1
theorem IsS76.grown {w0 W:World} {g:Nat} {f0:Bool} {f1:List Int} {W1:World} {row:Option Nat} (h:IsS76 w0 W g f0 f1) (hw:W.grownBy W1 row) (hne:some g ≠ row):IsS76 w0 W1 g f0 f1:=by
  obtain ⟨A1,c1,hb,hg,hr1⟩:=h
  exact ⟨A1,c1,blk_grown hb hw hne,hg,hr1⟩
theorem IsS76.kept {w0 W:World} {g:Nat} {f0:Bool} {f1:List Int} {W1:World} {S:Nat→Prop} (h:IsS76 w0 W g f0 f1) (hk:Kept W W1 S) (hne:¬ S g):IsS76 w0 W1 g f0 f1:=by
  obtain ⟨A1,c1,hb,hg,hr1⟩:=h
  exact ⟨A1,c1,blk_kept hb hk hne,hg,hr1⟩
theorem IsS76.below {w0 W:World} {g:Nat} {f0:Bool} {f1:List Int} {W1:World} (h:IsS76 w0 W g f0 f1) (hw:Below W.heap.size W W1):IsS76 w0 W1 g f0 f1:=h.grown (grown_of_below hw none) (by simp)
theorem IsS76.alloc {w0 W:World} {g:Nat} {f0:Bool} {f1:List Int} (h:IsS76 w0 W g f0 f1) (o:Obj):IsS76 w0 (W.alloc o) g f0 f1:=h.below (below_alloc (Below.refl _ _) o)
theorem IsS76.drewN {w0 W:World} {g:Nat} {f0:Bool} {f1:List Int} (h:IsS76 w0 W g f0 f1) (m:Nat):IsS76 w0 (W.drewN m) g f0 f1:=h
theorem IsS76.drew {w0 W:World} {g:Nat} {f0:Bool} {f1:List Int} (h:IsS76 w0 W g f0 f1):IsS76 w0 W.drew g f0 f1:=h
theorem IsS76.at_ {w0 W:World} {g:Nat} {f0:Bool} {f1:List Int} {w':World} {m:Nat} (hq:W.drewN m=w') (h:IsS76 w0 W g f0 f1):IsS76 w0 w' g f0 f1:=by subst hq;exact IsS76.drewN h m
theorem IsS76.apart {w0 W:World} {g:Nat} {f0:Bool} {f1:List Int} {α:Type} {d:Kd α} {e:Nat} {base:Nat} {ok:Nat→Prop} {v:Value} {xs:List α} (h:IsS76 w0 W g f0 f1) (ho:d.R e W base ok v xs) (ht:∀ q,q ∈ e :: d.E→q ≠ 76):d.R e W base (fun k=>ok k∧k ≠ g) v xs:=by
  obtain ⟨A1,c1,hb,hg,hr1⟩:=h
  exact Kd.R_types ho hb ht
theorem IsS76.own_ne {w0 W:World} {g:Nat} {f0:Bool} {f1:List Int} {α:Type} {d:Kd α} {e:Nat} {base:Nat} {ok:Nat→Prop} {v:Value} {xs:List α} (h:IsS76 w0 W g f0 f1) (ho:d.R e W base ok v xs) (ht:e ≠ 76):some g ≠ v.ownBlock:=by
  obtain ⟨A1,c1,hb,hg,hr1⟩:=h
  exact Kd.R_ne ho hb ht
theorem IsS76.lt {w0 W:World} {g:Nat} {f0:Bool} {f1:List Int} (h:IsS76 w0 W g f0 f1):g < W.heap.size:=by
  obtain ⟨A1,c1,hb,hg,hr1⟩:=h
  exact blk_lt hb
theorem IsS76.ge {w0 W:World} {g:Nat} {f0:Bool} {f1:List Int} (h:IsS76 w0 W g f0 f1):w0.heap.size≤g:=by
  obtain ⟨A1,c1,hb,hg,hr1⟩:=h
  exact hg
theorem IsS76.far {w0 W:World} {g:Nat} {f0:Bool} {f1:List Int} {p:Addr} (h:IsS76 w0 W g f0 f1) (hne:g ≠ p.block) (u:Value):IsS76 w0 (W.setCell p u) g f0 f1:=by
  obtain ⟨A1,c1,hb,hg,hr1⟩:=h
  exact ⟨A1,c1,blk_far hb hne u,hg,hr1⟩
theorem cellS76_0 {W:World} {g:Nat} {A1:Option Addr} {c1:Nat} {f0:Bool} {f1:List Int} (h:W.heap[g]?=some (.cells #[.bool f0,.slice A1 f1.length c1] 76 (0,0))):W.cell? ⟨g,0,none⟩=some (.bool f0):=(blk_cell h 0).trans rfl
theorem IsS76.set_0 {w0 W:World} {g:Nat} {f0:Bool} {f1:List Int} (h:IsS76 w0 W g f0 f1) (x:Bool):IsS76 w0 (W.setCell ⟨g,0,none⟩ (.bool x)) g x f1:=by
  obtain ⟨A1,c1,hb,hg,hr1⟩:=h
  exact ⟨A1,c1,by simpa using blk_set hb 0 (.bool x),hg,hr1⟩
theorem cellS76_1 {W:World} {g:Nat} {A1:Option Addr} {c1:Nat} {f0:Bool} {f1:List Int} (h:W.heap[g]?=some (.cells #[.bool f0,.slice A1 f1.length c1] 76 (0,0))):W.cell? ⟨g,1,none⟩=some (.slice A1 f1.length c1):=(blk_cell h 1).trans rfl
def bignum_Int_Uint64.f (s0_0:Bool) (s0_1:List Int):Option (Int × Bool):=if (s0_1.length:Int) > 0 then (if 0 < (s0_1.length:Int) then (if (s0_1.length:Int) > 1 then (if 1 < (s0_1.length:Int) then (some (Go.bits .or .u64 (IntKind.u64.wrap (rd s0_1 0)) (IntKind.u64.wrap ((IntKind.u64.wrap (rd s0_1 1)) * 4294967296)),s0_0)) else (none)) else (some (IntKind.u64.wrap (rd s0_1 0),s0_0))) else (none)) else (if (s0_1.length:Int) > 1 then (if 1 < (s0_1.length:Int) then (some (Go.bits .or .u64 0 (IntKind.u64.wrap ((IntKind.u64.wrap (rd s0_1 1)) * 4294967296)),s0_0)) else (none)) else (some (0,s0_0)))
set_option maxHeartbeats 8000000 in
set_option maxRecDepth 100000 in
theorem bignum_Int_Uint64.calls (g:Nat) (s0_0:Bool) (s0_1:List Int) (r1:Int) (r2:Bool) (w0 w:World) (hI:IsS76 w0 w g s0_0 s0_1) (hB:Below w0.heap.size w0 w) (h:bignum_Int_Uint64.f s0_0 s0_1=some (r1,r2)) :
    Calls Tryd.prog 51 #[.pointer (some ⟨g,0,none⟩)] w fun e w'=>e=.returned (.int .u64 r1)∧IsS76 w0 w' g r2 s0_1∧Below w0.heap.size w0 w'∧KeepBut w w' g none:=by
  have HI0:=Aside0.mk hI
  have HK:=Aside0.mk (KeepBut.refl w g none)
  have HL:=Aside0.mk hB.size
  clear hI
  have HW0:=Aside0.mk hB.size
  have HB:=Aside0.mk hB
  clear hB
  have H:(if (s0_1.length:Int) > 0 then (if 0 < (s0_1.length:Int) then (if (s0_1.length:Int) > 1 then (if 1 < (s0_1.length:Int) then (some (Go.bits .or .u64 (IntKind.u64.wrap (rd s0_1 0)) (IntKind.u64.wrap ((IntKind.u64.wrap (rd s0_1 1)) * 4294967296)),s0_0)) else (none)) else (some (IntKind.u64.wrap (rd s0_1 0),s0_0))) else (none)) else (if (s0_1.length:Int) > 1 then (if 1 < (s0_1.length:Int) then (some (Go.bits .or .u64 0 (IntKind.u64.wrap ((IntKind.u64.wrap (rd s0_1 1)) * 4294967296)),s0_0)) else (none)) else (some (0,s0_0))))=some (r1,r2):=h
  clear h
  by_cases c2:(s0_1.length:Int) > 0
  · rw [if_pos c2] at H
    have c2b0:decide (0 < (s0_1.length:Int))=true:=decide_eq_true c2
    have c2b1:decide (0 < s0_1.length)=true:=decide_eq_true (by omega)
    clear c2
    by_cases c3:0 < (s0_1.length:Int)
    · rw [if_pos c3] at H
      have c3b0:decide (0 < (s0_1.length:Int))=true:=decide_eq_true c3
      have c3b1:decide (0 < s0_1.length)=true:=decide_eq_true (by omega)
      clear c3
      by_cases c4:(s0_1.length:Int) > 1
      · rw [if_pos c4] at H
        have c4b0:decide (1 < (s0_1.length:Int))=true:=decide_eq_true c4
        have c4b1:decide (1 < s0_1.length)=true:=decide_eq_true (by omega)
        clear c4
        by_cases c5:1 < (s0_1.length:Int)
        · rw [if_pos c5] at H
          have c5b0:decide (1 < (s0_1.length:Int))=true:=decide_eq_true c5
          have c5b1:decide (1 < s0_1.length)=true:=decide_eq_true (by omega)
          clear c5
          simp only [Option.some.injEq,Prod.mk.injEq] at H
          obtain ⟨rfl,rfl⟩:=H
          obtain ⟨ASz6_1,cSz6_1,HGz6,hgz6,HSz6_1⟩:=HI0.out
          have hcz6_0:=cellS76_0 HGz6
          have hcz6_1:=cellS76_1 HGz6
          have hfz6_0:=blk_frozen HGz6 0
          clear HGz6 hgz6
          have p176:0≤(0:Int):=(by omega)
          have q176:0 < (s0_1.length:Int):=of_decide_eq_true (by first|(with_reducible assumption)|assumption)
          obtain ⟨ad176,e176,hx176_0⟩:=Kd.at_int HSz6_1 0 p176 q176
          cases e176
          have qi176:(0 < s0_1.length)=True:=eq_true (by omega)
          (try rw [show ((0:Int)).toNat=0 from rfl] at hx176_0)
          (try rw [Addr.add_zero'] at hx176_0)
          replace hx176_0:=pw_cell_below HB.out hx176_0
          replace p176:=eq_true p176
          replace q176:=eq_true q176
          have p177:0≤(1:Int):=(by omega)
          have q177:1 < (s0_1.length:Int):=of_decide_eq_true (by first|(with_reducible assumption)|assumption)
          obtain ⟨ad177,e177,hx177_0⟩:=Kd.at_int HSz6_1 1 p177 q177
          obtain rfl:ad176=ad177:=(by injection e177)
          (try simp only [show (1:Int).toNat=1 from rfl,Nat.reduceMul,Nat.reduceEqDiff,Go.Addr.add,↓reduceIte] at hx177_0)
          have qi177:(1 < s0_1.length)=True:=eq_true (by omega)
          (try rw [show ((1:Int)).toNat=1 from rfl] at hx177_0)
          replace hx177_0:=pw_cell_below HB.out hx177_0
          replace p177:=eq_true p177
          replace q177:=eq_true q177
          go_enter Tryd.func51,Tryd.ntmps51
          go_wp2
          go_ret
          exact ⟨by first|rfl|(simp [errW_none,errW_some] <;> rfl)|(simp [*,errW_none,errW_some] <;> rfl),by repeat (first|(with_reducible first|exact HI0.out|apply IsS76.alloc|apply IsS76.drewN|apply IsS76.drew|apply IsS76.set_0)|exact HI0.out),by repeat (first|(with_reducible first|exact HB.out|apply below_alloc|apply pw_below_drewN|apply below_drew1|refine below_set ?_ (IsS76.ge HI0.out))|exact HB.out),by repeat (first|(with_reducible first|exact HK.out|apply KeepBut.set_|apply keep_drewN|apply keep_drew|apply keep_alloc)|exact HK.out)⟩
        · rw [if_neg c5] at H
          exact absurd H (by simp)
      · rw [if_neg c4] at H
        have c4b0:decide (1 < (s0_1.length:Int))=false:=decide_eq_false c4
        have c4b1:decide (1 < s0_1.length)=false:=decide_eq_false (by omega)
        clear c4
        simp only [Option.some.injEq,Prod.mk.injEq] at H
        obtain ⟨rfl,rfl⟩:=H
        obtain ⟨ASz7_1,cSz7_1,HGz7,hgz7,HSz7_1⟩:=HI0.out
        have hcz7_0:=cellS76_0 HGz7
        have hcz7_1:=cellS76_1 HGz7
        have hfz7_0:=blk_frozen HGz7 0
        clear HGz7 hgz7
        have p176:0≤(0:Int):=(by omega)
        have q176:0 < (s0_1.length:Int):=of_decide_eq_true (by first|(with_reducible assumption)|assumption)
        obtain ⟨ad176,e176,hx176_0⟩:=Kd.at_int HSz7_1 0 p176 q176
        cases e176
        have qi176:(0 < s0_1.length)=True:=eq_true (by omega)
        (try rw [show ((0:Int)).toNat=0 from rfl] at hx176_0)
        (try rw [Addr.add_zero'] at hx176_0)
        replace hx176_0:=pw_cell_below HB.out hx176_0
        replace p176:=eq_true p176
        replace q176:=eq_true q176
        go_enter Tryd.func51,Tryd.ntmps51
        go_wp2
        go_ret
        exact ⟨by first|rfl|(simp [errW_none,errW_some] <;> rfl)|(simp [*,errW_none,errW_some] <;> rfl),by repeat (first|(with_reducible first|exact HI0.out|apply IsS76.alloc|apply IsS76.drewN|apply IsS76.drew|apply IsS76.set_0)|exact HI0.out),by repeat (first|(with_reducible first|exact HB.out|apply below_alloc|apply pw_below_drewN|apply below_drew1|refine below_set ?_ (IsS76.ge HI0.out))|exact HB.out),by repeat (first|(with_reducible first|exact HK.out|apply KeepBut.set_|apply keep_drewN|apply keep_drew|apply keep_alloc)|exact HK.out)⟩
    · rw [if_neg c3] at H
      exact absurd H (by simp)
  · rw [if_neg c2] at H
    have c2b0:decide (0 < (s0_1.length:Int))=false:=decide_eq_false c2
    have c2b1:decide (0 < s0_1.length)=false:=decide_eq_false (by omega)
    clear c2
    by_cases c8:(s0_1.length:Int) > 1
    · rw [if_pos c8] at H
      have c8b0:decide (1 < (s0_1.length:Int))=true:=decide_eq_true c8
      have c8b1:decide (1 < s0_1.length)=true:=decide_eq_true (by omega)
      clear c8
      by_cases c9:1 < (s0_1.length:Int)
      · rw [if_pos c9] at H
        have c9b0:decide (1 < (s0_1.length:Int))=true:=decide_eq_true c9
        have c9b1:decide (1 < s0_1.length)=true:=decide_eq_true (by omega)
        clear c9
        simp only [Option.some.injEq,Prod.mk.injEq] at H
        obtain ⟨rfl,rfl⟩:=H
        obtain ⟨ASz10_1,cSz10_1,HGz10,hgz10,HSz10_1⟩:=HI0.out
        have hcz10_0:=cellS76_0 HGz10
        have hcz10_1:=cellS76_1 HGz10
        have hfz10_0:=blk_frozen HGz10 0
        clear HGz10 hgz10
        have p178:0≤(1:Int):=(by omega)
        have q178:1 < (s0_1.length:Int):=of_decide_eq_true (by first|(with_reducible assumption)|assumption)
        obtain ⟨ad178,e178,hx178_0⟩:=Kd.at_int HSz10_1 1 p178 q178
        cases e178
        (try simp only [show (1:Int).toNat=1 from rfl,Nat.reduceMul,Nat.reduceEqDiff,Go.Addr.add,↓reduceIte] at hx178_0)
        have qi178:(1 < s0_1.length)=True:=eq_true (by omega)
        (try rw [show ((1:Int)).toNat=1 from rfl] at hx178_0)
        replace hx178_0:=pw_cell_below HB.out hx178_0
        replace p178:=eq_true p178
        replace q178:=eq_true q178
        go_enter Tryd.func51,Tryd.ntmps51
        go_wp2
        go_ret
        exact ⟨by first|rfl|(simp [errW_none,errW_some] <;> rfl)|(simp [*,errW_none,errW_some] <;> rfl),by repeat (first|(with_reducible first|exact HI0.out|apply IsS76.alloc|apply IsS76.drewN|apply IsS76.drew|apply IsS76.set_0)|exact HI0.out),by repeat (first|(with_reducible first|exact HB.out|apply below_alloc|apply pw_below_drewN|apply below_drew1|refine below_set ?_ (IsS76.ge HI0.out))|exact HB.out),by repeat (first|(with_reducible first|exact HK.out|apply KeepBut.set_|apply keep_drewN|apply keep_drew|apply keep_alloc)|exact HK.out)⟩
      · rw [if_neg c9] at H
        exact absurd H (by simp)
    · rw [if_neg c8] at H
      have c8b0:decide (1 < (s0_1.length:Int))=false:=decide_eq_false c8
      have c8b1:decide (1 < s0_1.length)=false:=decide_eq_false (by omega)
      clear c8
      simp only [Option.some.injEq,Prod.mk.injEq] at H
      obtain ⟨rfl,rfl⟩:=H
      obtain ⟨ASz11_1,cSz11_1,HGz11,hgz11,HSz11_1⟩:=HI0.out
      have hcz11_0:=cellS76_0 HGz11
      have hcz11_1:=cellS76_1 HGz11
      have hfz11_0:=blk_frozen HGz11 0
      clear HGz11 hgz11
      go_enter Tryd.func51,Tryd.ntmps51
      go_wp2
      go_ret
      exact ⟨by first|rfl|(simp [errW_none,errW_some] <;> rfl)|(simp [*,errW_none,errW_some] <;> rfl),by repeat (first|(with_reducible first|exact HI0.out|apply IsS76.alloc|apply IsS76.drewN|apply IsS76.drew|apply IsS76.set_0)|exact HI0.out),by repeat (first|(with_reducible first|exact HB.out|apply below_alloc|apply pw_below_drewN|apply below_drew1|refine below_set ?_ (IsS76.ge HI0.out))|exact HB.out),by repeat (first|(with_reducible first|exact HK.out|apply KeepBut.set_|apply keep_drewN|apply keep_drew|apply keep_alloc)|exact HK.out)⟩
end Go.Proofs.YtalhpbilkhdfhaaDoor.XBn
