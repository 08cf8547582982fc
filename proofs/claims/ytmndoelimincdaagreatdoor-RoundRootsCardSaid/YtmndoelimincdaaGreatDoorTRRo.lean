import Derived.Test.YtmndoelimincdaaGreatDoorTRRm
import Derived.Test.YtmndoelimincdaaGreatDoorTRRn
namespace Go.Proofs.YtmndoelimincdaaGreatDoor.XRf
open Go.RowKit Go.Proofs.YtmndoelimincdaaGreatDoorW.PrintWords Go.Proofs.YtmndoelimincdaaGreatDoorW.PrintLast Go.Proofs.YtmndoelimincdaaGreatDoorW.PrintMore
attribute [local go_sem] max2_int min2_int max_two min_two max_three min_three max_four min_four
set_option linter.unusedVariables false
set_option linter.unusedSimpArgs false
mutual
def girderref00_NatUp.l0:Nat→Int→List Int→List Int→Int→Int→Int→Option (List Int)
  | 0,_,_,_,_,_,_=>none
  | k + 1,x1,x5,x6,x7,x8,x9=>if x9 < (Int.tmod x1 32) then (girderref00_NatUp.l0 k x1 x5 x6 x7 (IntKind.u64.wrap (2 * x8)) (wrap64 (x9 + 1))) else (girderref00_NatUp.l1 k x5 x6 x7 x8 0)
def girderref00_NatUp.l1:Nat→List Int→List Int→Int→Int→Int→Option (List Int)
  | 0,_,_,_,_,_=>none
  | k + 1,x5,x6,x7,x8,x10=>if x10 < (x5.length:Int) then (if 0≤x10 then (if x6.length < 17592186044416 then (girderref00_NatUp.l1 k x5 (x6 ++ [Int.tmod (IntKind.u64.wrap ((IntKind.u64.wrap ((rd x5 x10) * x8)) + x7)) 4294967296]) (IntKind.u64.wrap (Int.tdiv (IntKind.u64.wrap ((IntKind.u64.wrap ((rd x5 x10) * x8)) + x7)) 4294967296)) x8 (wrap64 (x10 + 1))) else (none)) else (none)) else (if x6.length < 17592186044416 then ((girderref00_limbs.f k (x6 ++ [x7])).bind fun t204=>(some t204)) else (none))
end
def girderref00_NatUp.f (k:Nat) (l0:List Int) (a1:Int):Option (List Int):=(girderref00_halves.f k l0).bind fun t191=>(if (t191.length:Int)=0 then (some ([]:List Int)) else (if 0≤(wrap64 (Int.tdiv a1 32)) then (if (wrap64 (Int.tdiv a1 32):Int).toNat≤35184372088832 then (girderref00_NatUp.l0 k a1 t191 (List.replicate (wrap64 (Int.tdiv a1 32):Int).toNat 0) 0 1 0) else (none)) else (none)))
theorem girderref00_NatUp.mono_l:∀ k,(∀ y0 y1 y2 y3 y4 y5,LeO (girderref00_NatUp.l0 k y0 y1 y2 y3 y4 y5) (girderref00_NatUp.l0 (k + 1) y0 y1 y2 y3 y4 y5))∧(∀ y0 y1 y2 y3 y4,LeO (girderref00_NatUp.l1 k y0 y1 y2 y3 y4) (girderref00_NatUp.l1 (k + 1) y0 y1 y2 y3 y4))
  | 0=>⟨fun _ _ _ _ _ _ r h=>by simp [girderref00_NatUp.l0] at h,fun _ _ _ _ _ r h=>by simp [girderref00_NatUp.l1] at h⟩
  | k + 1=>by
    obtain ⟨ih0,ih1⟩:=girderref00_NatUp.mono_l k
    refine ⟨?_,?_⟩
    · intro y0 y1 y2 y3 y4 y5
      unfold girderref00_NatUp.l0
      repeat' first
      | (with_reducible exact ih0 _ _ _ _ _ _)
      | (with_reducible exact ih1 _ _ _ _ _)
      | (with_reducible exact girderref00_halves.mono _ _)
      | (with_reducible exact girderref00_limbs.mono _ _)
      | (with_reducible exact LeO.refl _)
      | (with_reducible exact LeO.none _)
      | (with_reducible refine LeO.ite ?_ ?_)
      | (with_reducible refine LeO.bind ?_ (fun _=>?_))
      | exact ih0 _ _ _ _ _ _
      | exact ih1 _ _ _ _ _
      | exact girderref00_halves.mono _ _
      | exact girderref00_limbs.mono _ _
      | exact LeO.none _
      | refine LeO.ite ?_ ?_
      | refine LeO.bind ?_ (fun _=>?_)
    · intro y0 y1 y2 y3 y4
      unfold girderref00_NatUp.l1
      repeat' first
      | (with_reducible exact ih0 _ _ _ _ _ _)
      | (with_reducible exact ih1 _ _ _ _ _)
      | (with_reducible exact girderref00_halves.mono _ _)
      | (with_reducible exact girderref00_limbs.mono _ _)
      | (with_reducible exact LeO.refl _)
      | (with_reducible exact LeO.none _)
      | (with_reducible refine LeO.ite ?_ ?_)
      | (with_reducible refine LeO.bind ?_ (fun _=>?_))
      | exact ih0 _ _ _ _ _ _
      | exact ih1 _ _ _ _ _
      | exact girderref00_halves.mono _ _
      | exact girderref00_limbs.mono _ _
      | exact LeO.none _
      | refine LeO.ite ?_ ?_
      | refine LeO.bind ?_ (fun _=>?_)
theorem girderref00_NatUp.mono:∀ a0 a1 k,LeO (girderref00_NatUp.f k a0 a1) (girderref00_NatUp.f (k + 1) a0 a1):=by
  intro a0 a1 k
  obtain ⟨ih0,ih1⟩:=girderref00_NatUp.mono_l k
  unfold girderref00_NatUp.f
  repeat' first
      | (with_reducible exact ih0 _ _ _ _ _ _)
      | (with_reducible exact ih1 _ _ _ _ _)
      | (with_reducible exact girderref00_halves.mono _ _)
      | (with_reducible exact girderref00_limbs.mono _ _)
      | (with_reducible exact LeO.refl _)
      | (with_reducible exact LeO.none _)
      | (with_reducible refine LeO.ite ?_ ?_)
      | (with_reducible refine LeO.bind ?_ (fun _=>?_))
      | exact ih0 _ _ _ _ _ _
      | exact ih1 _ _ _ _ _
      | exact girderref00_halves.mono _ _
      | exact girderref00_limbs.mono _ _
      | exact LeO.none _
      | refine LeO.ite ?_ ?_
      | refine LeO.bind ?_ (fun _=>?_)
set_option maxHeartbeats 8000000 in
set_option maxRecDepth 100000 in
theorem girderref00_NatUp.calls (k:Nat) (A0:Option Addr) (c0:Nat) (l0:List Int) (a1:Int) (r:List Int) (w:World) (hr0:Kd.C (Kd.int .u64) w A0 l0.length l0) (hc0:l0.length≤c0) (h:girderref00_NatUp.f k l0 a1=some r) :
    Calls Tryz.prog 93 #[.slice A0 l0.length c0,.int .i64 a1] w fun e w'=>∃ v0_:Value,e=.returned (v0_)∧Kd.R (Kd.int .u64) 38 w' w.heap.size (fun _=>True) v0_ r∧Below w.heap.size w w':=by
  have HR0:=Aside0.mk hr0
  have HC0:=Aside0.mk hc0
  clear hr0 hc0
  have HB:=Aside0.mk (Below.refl w.heap.size w)
  have H:((girderref00_halves.f k l0).bind fun t191=>(if (t191.length:Int)=0 then (some ([]:List Int)) else (if 0≤(wrap64 (Int.tdiv a1 32)) then (if (wrap64 (Int.tdiv a1 32):Int).toNat≤35184372088832 then (girderref00_NatUp.l0 k a1 t191 (List.replicate (wrap64 (Int.tdiv a1 32):Int).toNat 0) 0 1 0) else (none)) else (none))))=some r:=h
  clear h
  replace H:=Option.bind_eq_some_iff.mp H
  obtain ⟨t191,A30,H⟩:=H
  replace H:(if (t191.length:Int)=0 then (some ([]:List Int)) else (if 0≤(wrap64 (Int.tdiv a1 32)) then (if (wrap64 (Int.tdiv a1 32):Int).toNat≤35184372088832 then (girderref00_NatUp.l0 k a1 t191 (List.replicate (wrap64 (Int.tdiv a1 32):Int).toNat 0) 0 1 0) else (none)) else (none)))=some r:=H
  have A3:=Aside0.mk A30
  clear A30
  by_cases c4:(t191.length:Int)=0
  · rw [if_pos c4] at H
    have c4b0:((t191.length:Int) == 0)=true:=beq_iff_eq.mpr c4
    have c4b1:((t191.length:Int) != 0)=false:=bne_eq_false_iff_eq.mpr c4
    clear c4
    obtain rfl:=Option.some.inj H
    go_enter Tryz.func93,Tryz.ntmps93
    go_wp2_with (first|((with_reducible refine gate_callee (f:=108) rfl ?_);refine goesL_ (some 13) rfl rfl Tryz.func108 (by kernel_rfl) rfl #[.slice A0 l0.length c0] rfl (by (try simp only [List.map_toArray,List.map_cons,List.map_nil]);first|done|rfl|(simp only [List.length_drop,List.length_take];rfl)) ?_;(with_reducible refine (girderref00_halves.calls k _ _ l0 t191 _ ?side1 ?side2 A3.out).mono ?_);(case side1=>repeat (first|exact HR0.out|(with_reducible refine Kd.C_alloc ?_ _)|(with_reducible refine Kd.C_drewN ?_ _)|(with_reducible refine Kd.C_drew ?_)));(case side2=>exact HC0.out);rintro e w5 ⟨v192,rfl,ho0,hb⟩;refine ⟨_,rfl,?_⟩;have n0_:=Aside0.mk (Kd.R_lower ho0 (below_size (by repeat (first|(with_reducible first|exact HB.out|apply below_alloc|apply pw_below_drewN|apply below_drew1)|exact HB.out))));have n1_:=Aside0.mk (below_step (by repeat (first|(with_reducible first|exact HB.out|apply below_alloc|apply pw_below_drewN|apply below_drew1)|exact HB.out)) hb);clear HB;have HO193:=n0_;have HB:=n1_;clear n0_ n1_;(try clear hb);(try clear hb2);(try clear hk);(try clear hi);(try clear ho0);obtain ⟨Ao6,co6,eo6⟩:=Kd.R_slice HO193.out;subst eo6))
    go_ret
    exact ⟨_,by first|rfl|(simp [errW_none,errW_some] <;> rfl)|(simp [*,errW_none,errW_some] <;> rfl),by first|exact Kd.R_nil _ _ _ _ _|exact Kd.N_nil _ _ _ _ _|exact Kd.V_nil _ _ _ _ _|exact Kd.Q_nil _ _ _ _ _|exact Kd.S_nil _ _ _ _ _,by repeat (first|(with_reducible first|exact HB.out|apply below_alloc|apply pw_below_drewN|apply below_drew1)|exact HB.out)⟩
  · rw [if_neg c4] at H
    have c4b0:((t191.length:Int) == 0)=false:=beq_eq_false_iff_ne.mpr c4
    have c4b1:((t191.length:Int) != 0)=true:=bne_iff_ne.mpr c4
    have c4b2:¬ (t191=[]):=fun h_=>c4 (by rw [h_];rfl)
    obtain ⟨ji7,hji7⟩:∃ j_:Int,(wrap64 (Int.tdiv a1 32))=j_:=⟨_,rfl⟩
    replace H:(if 0≤(ji7) then (if (ji7:Int).toNat≤35184372088832 then (girderref00_NatUp.l0 k a1 t191 (List.replicate (ji7:Int).toNat 0) 0 1 0) else (none)) else (none))=some r:=by first|(rw [hji7] at H;exact H)|(simp only [hji7] at H ⊢;exact H)
    (try rw [hji7] at A3)
    have hji7w:(IntKind.i64.wrap (Int.tdiv a1 32))=ji7:=(i64_w _).trans hji7
    by_cases c8:0≤(ji7)
    · rw [if_pos c8] at H
      have c8b0:=eq_true c8
      have c8b1:decide (0≤(ji7))=true:=decide_eq_true c8
      clear c8
      by_cases c9:(ji7:Int).toNat≤35184372088832
      · rw [if_pos c9] at H
        have c9b0:=eq_true c9
        have c9b1:decide ((ji7:Int).toNat≤35184372088832)=true:=decide_eq_true c9
        clear c9
        obtain ⟨y194,hy194⟩:∃ y_:List Int,y_=(List.replicate (ji7:Int).toNat 0):=⟨_,rfl⟩
        replace H:(girderref00_NatUp.l0 k a1 t191 y194 0 1 0)=some r:=by first|(rw [hy194];with_reducible exact H)|(have H2_:=(Option.bind_some _ _).symm.trans H;rw [hy194];with_reducible exact H2_)|(have H2_:=(Option.bind_some _ _).symm.trans H;with_reducible exact H2_)|with_reducible exact H|(rw [hy194];exact H)|exact H
        have Ny194:=Aside0.mk hy194
        clear hy194
        have H':=Aside0.mk H
        clear H
        go_enter Tryz.func93,Tryz.ntmps93
        go_wp2_with (first|((with_reducible refine gate_callee (f:=108) rfl ?_);refine goesL_ (some 13) rfl rfl Tryz.func108 (by kernel_rfl) rfl #[.slice A0 l0.length c0] rfl (by (try simp only [List.map_toArray,List.map_cons,List.map_nil]);first|done|rfl|(simp only [List.length_drop,List.length_take];rfl)) ?_;(with_reducible refine (girderref00_halves.calls k _ _ l0 t191 _ ?side1 ?side2 A3.out).mono ?_);(case side1=>repeat (first|exact HR0.out|(with_reducible refine Kd.C_alloc ?_ _)|(with_reducible refine Kd.C_drewN ?_ _)|(with_reducible refine Kd.C_drew ?_)));(case side2=>exact HC0.out);rintro e w10 ⟨v192,rfl,ho0,hb⟩;refine ⟨_,rfl,?_⟩;have n0_:=Aside0.mk (Kd.R_lower ho0 (below_size (by repeat (first|(with_reducible first|exact HB.out|apply below_alloc|apply pw_below_drewN|apply below_drew1)|exact HB.out))));have n1_:=Aside0.mk (below_step (by repeat (first|(with_reducible first|exact HB.out|apply below_alloc|apply pw_below_drewN|apply below_drew1)|exact HB.out)) hb);clear HB;have HO193:=n0_;have HB:=n1_;clear n0_ n1_;(try clear hb);(try clear hb2);(try clear hk);(try clear hi);(try clear ho0);obtain ⟨Ao11,co11,eo11⟩:=Kd.R_slice HO193.out;subst eo11)|((with_reducible refine gate_dst (N:=19) rfl ?_);refine Kd.R_make (Kd.int .u64) _ 38 rfl (N:=19) rfl 46 _ _ rfl ji7 rfl rfl Tryz.underlying46 (.int .u64 0) 8 info38 rfl (by decide) (by omega) 0 (ok:=fun _=>True) (okp:=fun _=>True) rfl (fun _ hk=>hk) trivial (of_decide_eq_true (by first|(with_reducible assumption)|assumption)) (Nat.le_trans (Nat.mul_le_mul_right _ (of_decide_eq_true (by first|(with_reducible assumption)|assumption):ji7.toNat≤35184372088832)) (by omega)) (Below.refl _ _) (Nat.le_refl _) ?_;intro v195 w12 ho13 hb hg_ hnew_;clear hg_ hnew_;(first|rw [← Ny194.out] at ho13|(simp only [Int.reduceToNat] at ho13;rw [← Ny194.out] at ho13));have n0_:=Aside0.mk (Kd.R_elder' (by (with_reducible repeat (first|apply Kd.R_alloc|apply Kd.R_drewN|apply Kd.R_drew));exact HO193.out) (Kd.R_base ho13) hb);have n1_:=Aside0.mk (Kd.R_lower (Kd.R_new' ho13 (Kd.R_lt (by (with_reducible repeat (first|apply Kd.R_alloc|apply Kd.R_drewN|apply Kd.R_drew));exact HO193.out))) (below_size (by repeat (first|(with_reducible first|exact HB.out|apply below_alloc|apply pw_below_drewN|apply below_drew1)|exact HB.out))));have n2_:=Aside0.mk (below_step (by repeat (first|(with_reducible first|exact HB.out|apply below_alloc|apply pw_below_drewN|apply below_drew1)|exact HB.out)) hb);clear HO193;clear HB;have HO193:=n0_;have HO196:=n1_;have HB:=n2_;clear n0_ n1_ n2_;clear hb ho13))
        go_loopg [8,9] k (fun kq v8 v9 w'=>∃ (x8_1:Int) (x9_1:Int),v8=.int .u64 x8_1∧v9=.int .i64 x9_1∧Aside0 (girderref00_NatUp.l0 kq a1 t191 y194 0 x8_1 x9_1=some r)∧Aside0 (kq≤k)∧Aside0 (Kd.R (Kd.int .u64) 38 w' w.heap.size (fun k_=>some k_ ≠ (v195:Value).ownBlock) (.slice Ao11 t191.length co11) t191)∧Aside0 (Kd.R (Kd.int .u64) 38 w' w.heap.size (fun k_=>some k_ ≠ ((.slice Ao11 t191.length co11):Value).ownBlock) v195 y194)∧Aside0 (Below w.heap.size w w'))
        case atStart=>exact ⟨(1),(0),(by first|rfl|(simp;done)|(simp [*];done)),(by first|rfl|(simp;done)|(simp [*];done)),H',⟨Nat.le_refl _⟩,⟨by (with_reducible repeat (first|apply Kd.R_alloc|apply Kd.R_drewN|apply Kd.R_drew));exact Kd.R_mono HO193.out (fun _ hk=>hk.2)⟩,⟨by (with_reducible repeat (first|apply Kd.R_alloc|apply Kd.R_drewN|apply Kd.R_drew));exact Kd.R_mono HO196.out (fun _ hk=>hk.2)⟩,⟨by repeat (first|(with_reducible first|exact HB.out|apply below_alloc|apply pw_below_drewN|apply below_drew1)|exact HB.out)⟩⟩
        case round =>
          clear H'
          try clear c1
          try clear p2
          try clear c4
          try clear c4b0
          try clear c4b1
          try clear c4b2
          try clear p6
          try clear c8
          try clear c8b0
          try clear c8b1
          try clear c9
          try clear c9b0
          try clear c9b1
          try clear c10
          obtain ⟨x8_1,x9_1,rfl,rfl,HA,HK1,HO_5,HO_6,HB⟩:=hrel
          cases gk with
          | zero=>exact absurd HA.out (by simp [girderref00_NatUp.l0])
          | succ k1 =>
            have H:=HA.out
            clear HA
            simp only [girderref00_NatUp.l0] at H
            by_cases c14:x9_1 < (Int.tmod a1 32)
            · rw [if_pos c14] at H
              have c14b0:decide (x9_1 < (Int.tmod a1 32))=true:=decide_eq_true c14
              clear c14
              have H':=Aside0.mk H
              clear H
              go_wp2
              go_roundg k1
              case measure=>have:=HK1.out;omega
              case rel=>exact ⟨(IntKind.u64.wrap (2 * x8_1)),(wrap64 (x9_1 + 1)),(by first|rfl|(simp;done)|(simp [*];done)),(by first|rfl|(simp;done)|(simp [*];done)),H',⟨by have:=HK1.out;omega⟩,⟨by (with_reducible repeat (first|apply Kd.R_alloc|apply Kd.R_drewN|apply Kd.R_drew));exact HO_5.out⟩,⟨by (with_reducible repeat (first|apply Kd.R_alloc|apply Kd.R_drewN|apply Kd.R_drew));exact HO_6.out⟩,⟨by repeat (first|(with_reducible first|exact HB.out|apply below_alloc|apply pw_below_drewN|apply below_drew1)|exact HB.out)⟩⟩
            · rw [if_neg c14] at H
              have c14b0:decide (x9_1 < (Int.tmod a1 32))=false:=decide_eq_false c14
              clear c14
              have H':=Aside0.mk H
              clear H
              go_wp2
              go_loopg [6,7,10] k1 (fun kq v6 v7 v10 w'=>∃ (x6_2:List Int) (x7_2:Int) (x10_2:Int),v7=.int .u64 x7_2∧v10=.int .i64 x10_2∧Aside0 (girderref00_NatUp.l1 kq t191 x6_2 x7_2 x8_1 x10_2=some r)∧Aside0 (kq≤k1)∧Aside0 (Kd.R (Kd.int .u64) 38 w' w.heap.size (fun k_=>some k_ ≠ (v6:Value).ownBlock) (.slice Ao11 t191.length co11) t191)∧Aside0 (Kd.R (Kd.int .u64) 38 w' w.heap.size (fun k_=>some k_ ≠ ((.slice Ao11 t191.length co11):Value).ownBlock) v6 x6_2)∧Aside0 (Below w.heap.size w w'))
              case atStart=>exact ⟨(y194),(0),(0),(by first|rfl|(simp;done)|(simp [*];done)),(by first|rfl|(simp;done)|(simp [*];done)),H',⟨Nat.le_refl _⟩,⟨by (with_reducible repeat (first|apply Kd.R_alloc|apply Kd.R_drewN|apply Kd.R_drew));exact HO_5.out⟩,⟨by (with_reducible repeat (first|apply Kd.R_alloc|apply Kd.R_drewN|apply Kd.R_drew));exact HO_6.out⟩,⟨by repeat (first|(with_reducible first|exact HB.out|apply below_alloc|apply pw_below_drewN|apply below_drew1)|exact HB.out)⟩⟩
              case round =>
                clear H'
                try clear c1
                try clear p2
                try clear c4
                try clear c4b0
                try clear c4b1
                try clear c4b2
                try clear p6
                try clear c8
                try clear c8b0
                try clear c8b1
                try clear c9
                try clear c9b0
                try clear c9b1
                try clear c10
                try clear c14
                try clear c14b0
                try clear p2
                try clear p6
                obtain ⟨x6_2,x7_2,x10_2,rfl,rfl,HA,HK2,HO_5,HO_6,HB⟩:=hrel
                cases gk with
                | zero=>exact absurd HA.out (by simp [girderref00_NatUp.l1])
                | succ k2 =>
                  have H:=HA.out
                  clear HA
                  simp only [girderref00_NatUp.l1] at H
                  by_cases c15:x10_2 < (t191.length:Int)
                  · rw [if_pos c15] at H
                    have c15b0:decide (x10_2 < (t191.length:Int))=true:=decide_eq_true c15
                    clear c15
                    by_cases c16:0≤x10_2
                    · rw [if_pos c16] at H
                      have c16b0:decide (0≤x10_2)=true:=decide_eq_true c16
                      clear c16
                      by_cases c17:x6_2.length < 17592186044416
                      · rw [if_pos c17] at H
                        have LMc17:=Aside0.mk c17
                        clear c17
                        obtain ⟨y198,hy198⟩:∃ y_:List Int,y_=(x6_2 ++ [Int.tmod (IntKind.u64.wrap ((IntKind.u64.wrap ((rd t191 x10_2) * x8_1)) + x7_2)) 4294967296]):=⟨_,rfl⟩
                        replace H:(girderref00_NatUp.l1 k2 t191 y198 (IntKind.u64.wrap (Int.tdiv (IntKind.u64.wrap ((IntKind.u64.wrap ((rd t191 x10_2) * x8_1)) + x7_2)) 4294967296)) x8_1 (wrap64 (x10_2 + 1)))=some r:=by first|(rw [hy198];with_reducible exact H)|(have H2_:=(Option.bind_some _ _).symm.trans H;rw [hy198];with_reducible exact H2_)|(have H2_:=(Option.bind_some _ _).symm.trans H;with_reducible exact H2_)|with_reducible exact H|(rw [hy198];exact H)|exact H
                        have Ny198:=Aside0.mk hy198
                        clear hy198
                        have H':=Aside0.mk H
                        clear H
                        have p197:0≤(x10_2:Int):=of_decide_eq_true (by first|(with_reducible assumption)|assumption)
                        have q197:x10_2 < (t191.length:Int):=of_decide_eq_true (by first|(with_reducible assumption)|assumption)
                        obtain ⟨ad197,e197,hx197_0⟩:=Kd.at_int (Kd.R_reads' HO_5.out).2.2 x10_2 p197 q197
                        cases e197
                        replace p197:=eq_true p197
                        replace q197:=eq_true q197
                        go_wp2_with (first|((with_reducible refine gate_builtin (b:=.append) (xs:=#[.tmp 42,.tmp 45]) rfl ?_);at_builtin;refine Kd.R_append (Kd.int .u64) (w0:=w) w.heap.size rfl (.tmp 42) (.tmp 45) 46 38 (.int .u64 0) 8 rfl Tryz.underlying46 info38 rfl (by decide) (by omega) u6 x6_2 (Int.tmod (IntKind.u64.wrap ((IntKind.u64.wrap ((rd t191 x10_2) * x8_1)) + x7_2)) 4294967296) [.int .u64 (Int.tmod (IntKind.u64.wrap ((IntKind.u64.wrap ((rd t191 x10_2) * x8_1)) + x7_2)) 4294967296)] (fun k_=>some k_ ≠ (.slice (some ad197) t191.length co11:Value).ownBlock) (fun _=>False) rfl rfl ?aP (fun _ hk=>hk.elim) ?aF ?aO ?aB ?aS ?aL ?_;(case aP=>exact rfl);(case aB=>exact (by repeat (first|(with_reducible first|exact HB.out|apply below_alloc|apply pw_below_drewN|apply below_drew1)|exact HB.out)));(case aF=>exact (fun k_ hk=>Kd.fresh' (Kd.R_lt (by (with_reducible repeat (first|apply Kd.R_alloc|apply Kd.R_drewN|apply Kd.R_drew));exact HO_5.out)) k_ hk));(case aO=>exact (by (with_reducible repeat (first|apply Kd.R_alloc|apply Kd.R_drewN|apply Kd.R_drew));exact HO_6.out));(case aS=>exact (below_size (by repeat (first|(with_reducible first|exact HB.out|apply below_alloc|apply pw_below_drewN|apply below_drew1)|exact HB.out))));(case aL=>have:=LMc17.out;omega);intro v199 w18 ho hb hg hat;rw [← Ny198.out] at ho;have n0_:=Aside0.mk (Kd.R_after (ok:=(fun _=>True)) (by (with_reducible repeat (first|apply Kd.R_alloc|apply Kd.R_drewN|apply Kd.R_drew));exact Kd.R_mono HO_5.out (fun _ hk=>⟨trivial,hk⟩)) hg hat);have n1_:=Aside0.mk (hb);have n2_:=Aside0.mk (ho);clear HO_5;clear HB;clear HO_6;have HO_5:=n0_;have HB:=n1_;have HO200:=n2_;clear n0_ n1_ n2_;clear ho hb hg hat))
                        go_roundg k2
                        case measure=>have:=HK1.out;have:=HK2.out;omega
                        case rel=>exact ⟨(y198),(IntKind.u64.wrap (Int.tdiv (IntKind.u64.wrap ((IntKind.u64.wrap ((rd t191 x10_2) * x8_1)) + x7_2)) 4294967296)),(wrap64 (x10_2 + 1)),(by first|rfl|(simp;done)|(simp [*];done)),(by first|rfl|(simp;done)|(simp [*];done)),H',⟨by have:=HK1.out;have:=HK2.out;omega⟩,⟨by (with_reducible repeat (first|apply Kd.R_alloc|apply Kd.R_drewN|apply Kd.R_drew));exact Kd.R_mono HO_5.out (fun _ hk=>hk.2)⟩,⟨by (with_reducible repeat (first|apply Kd.R_alloc|apply Kd.R_drewN|apply Kd.R_drew));exact HO200.out⟩,⟨by repeat (first|(with_reducible first|exact HB.out|apply below_alloc|apply pw_below_drewN|apply below_drew1)|exact HB.out)⟩⟩
                      · rw [if_neg c17] at H
                        exact absurd H (by simp)
                    · rw [if_neg c16] at H
                      exact absurd H (by simp)
                  · rw [if_neg c15] at H
                    have c15b0:decide (x10_2 < (t191.length:Int))=false:=decide_eq_false c15
                    clear c15
                    by_cases c19:x6_2.length < 17592186044416
                    · rw [if_pos c19] at H
                      have LMc19:=Aside0.mk c19
                      clear c19
                      obtain ⟨y201,hy201⟩:∃ y_:List Int,y_=(x6_2 ++ [x7_2]):=⟨_,rfl⟩
                      replace H:((girderref00_limbs.f k2 y201).bind fun t204=>(some t204))=some r:=by first|(rw [hy201];with_reducible exact H)|(have H2_:=(Option.bind_some _ _).symm.trans H;rw [hy201];with_reducible exact H2_)|(have H2_:=(Option.bind_some _ _).symm.trans H;with_reducible exact H2_)|with_reducible exact H|(rw [hy201];exact H)|exact H
                      have Ny201:=Aside0.mk hy201
                      clear hy201
                      replace H:=Option.bind_eq_some_iff.mp H
                      obtain ⟨t204,A200,H⟩:=H
                      replace H:(some t204)=some r:=H
                      have A20:=Aside0.mk A200
                      clear A200
                      obtain rfl:=Option.some.inj H
                      go_wp2_with (first|((with_reducible refine gate_builtin (b:=.append) (xs:=#[.tmp 49,.tmp 51]) rfl ?_);at_builtin;refine Kd.R_append (Kd.int .u64) (w0:=w) w.heap.size rfl (.tmp 49) (.tmp 51) 46 38 (.int .u64 0) 8 rfl Tryz.underlying46 info38 rfl (by decide) (by omega) u6 x6_2 x7_2 [.int .u64 x7_2] (fun k_=>some k_ ≠ (.slice Ao11 t191.length co11:Value).ownBlock) (fun _=>False) rfl rfl ?aP (fun _ hk=>hk.elim) ?aF ?aO ?aB ?aS ?aL ?_;(case aP=>exact rfl);(case aB=>exact (by repeat (first|(with_reducible first|exact HB.out|apply below_alloc|apply pw_below_drewN|apply below_drew1)|exact HB.out)));(case aF=>exact (fun k_ hk=>Kd.fresh' (Kd.R_lt (by (with_reducible repeat (first|apply Kd.R_alloc|apply Kd.R_drewN|apply Kd.R_drew));exact HO_5.out)) k_ hk));(case aO=>exact (by (with_reducible repeat (first|apply Kd.R_alloc|apply Kd.R_drewN|apply Kd.R_drew));exact HO_6.out));(case aS=>exact (below_size (by repeat (first|(with_reducible first|exact HB.out|apply below_alloc|apply pw_below_drewN|apply below_drew1)|exact HB.out))));(case aL=>have:=LMc19.out;omega);intro v202 w21 ho hb hg hat;rw [← Ny201.out] at ho;have n0_:=Aside0.mk (Kd.R_after (ok:=(fun _=>True)) (by (with_reducible repeat (first|apply Kd.R_alloc|apply Kd.R_drewN|apply Kd.R_drew));exact Kd.R_mono HO_5.out (fun _ hk=>⟨trivial,hk⟩)) hg hat);have n1_:=Aside0.mk (hb);have n2_:=Aside0.mk (ho);clear HO_5;clear HB;clear HO_6;have HO_5:=n0_;have HB:=n1_;have HO203:=n2_;clear n0_ n1_ n2_;clear ho hb hg hat;obtain ⟨Ao22,co22,eo22⟩:=Kd.R_slice HO203.out;subst eo22)|((with_reducible refine gate_callee (f:=106) rfl ?_);refine goesL_ (some 53) rfl rfl Tryz.func106 (by kernel_rfl) rfl #[.slice Ao22 y201.length co22] rfl (by (try simp only [List.map_toArray,List.map_cons,List.map_nil]);first|done|rfl|(simp only [List.length_drop,List.length_take];rfl)) ?_;(with_reducible refine (girderref00_limbs.calls k2 _ _ y201 t204 _ ?side1 ?side2 A20.out).mono ?_);(case side1=>repeat (first|exact (Kd.R_reads' HO203.out).2.2|(with_reducible refine Kd.C_alloc ?_ _)|(with_reducible refine Kd.C_drewN ?_ _)|(with_reducible refine Kd.C_drew ?_)));(case side2=>exact (Kd.R_reads' HO203.out).2.1);rintro e w23 ⟨v205,rfl,ho0,hb⟩;refine ⟨_,rfl,?_⟩;have n0_:=Aside0.mk (Kd.R_elder' (by (with_reducible repeat (first|apply Kd.R_alloc|apply Kd.R_drewN|apply Kd.R_drew));exact HO_5.out) (Kd.R_base ho0) hb);have n1_:=Aside0.mk (Kd.R_elder' (by (with_reducible repeat (first|apply Kd.R_alloc|apply Kd.R_drewN|apply Kd.R_drew));exact HO203.out) (Kd.R_base ho0) hb);have n2_:=Aside0.mk (Kd.R_lower (Kd.R_new' (Kd.R_new' ho0 (Kd.R_lt (by (with_reducible repeat (first|apply Kd.R_alloc|apply Kd.R_drewN|apply Kd.R_drew));exact HO_5.out))) (Kd.R_lt (by (with_reducible repeat (first|apply Kd.R_alloc|apply Kd.R_drewN|apply Kd.R_drew));exact HO203.out))) (below_size (by repeat (first|(with_reducible first|exact HB.out|apply below_alloc|apply pw_below_drewN|apply below_drew1)|exact HB.out))));have n3_:=Aside0.mk (below_step (by repeat (first|(with_reducible first|exact HB.out|apply below_alloc|apply pw_below_drewN|apply below_drew1)|exact HB.out)) hb);clear HO_5;clear HO203;clear HB;have HO_5:=n0_;have HO203:=n1_;have HO206:=n2_;have HB:=n3_;clear n0_ n1_ n2_ n3_;(try clear hb);(try clear hb2);(try clear hk);(try clear hi);(try clear ho0)))
                      go_ret
                      exact ⟨_,by first|rfl|(simp [errW_none,errW_some] <;> rfl)|(simp only [← hji7];first|rfl|(simp [errW_none,errW_some] <;> rfl))|(simp [*,errW_none,errW_some] <;> rfl),by (with_reducible repeat (first|apply Kd.R_alloc|apply Kd.R_drewN|apply Kd.R_drew));exact Kd.R_mono HO206.out (fun _ hk=>trivial),by repeat (first|(with_reducible first|exact HB.out|apply below_alloc|apply pw_below_drewN|apply below_drew1)|exact HB.out)⟩
                    · rw [if_neg c19] at H
                      exact absurd H (by simp)
      · rw [if_neg c9] at H
        exact absurd H (by simp)
    · rw [if_neg c8] at H
      exact absurd H (by simp)
def girderref00_NatOf.f (k:Nat) (a0:Int):Option (List Int):=(girderref00_NatTrim.f k (([a0]:List Int))).bind fun t210=>(some t210)
theorem girderref00_NatOf.mono:∀ a0 k,LeO (girderref00_NatOf.f k a0) (girderref00_NatOf.f (k + 1) a0):=by
  intro a0 k
  unfold girderref00_NatOf.f
  repeat' first
      | (with_reducible exact girderref00_NatTrim.mono _ _)
      | (with_reducible exact LeO.refl _)
      | (with_reducible exact LeO.none _)
      | (with_reducible refine LeO.ite ?_ ?_)
      | (with_reducible refine LeO.bind ?_ (fun _=>?_))
      | exact girderref00_NatTrim.mono _ _
      | exact LeO.none _
      | refine LeO.ite ?_ ?_
      | refine LeO.bind ?_ (fun _=>?_)
set_option maxHeartbeats 8000000 in
set_option maxRecDepth 100000 in
theorem girderref00_NatOf.calls (k:Nat) (a0:Int) (r:List Int) (w:World) (h:girderref00_NatOf.f k a0=some r) :
    Calls Tryz.prog 105 #[.int .u64 a0] w fun e w'=>∃ v0_:Value,e=.returned (v0_)∧Kd.R (Kd.int .u64) 38 w' w.heap.size (fun _=>True) v0_ r∧Below w.heap.size w w':=by
  have HB:=Aside0.mk (Below.refl w.heap.size w)
  have H:((girderref00_NatTrim.f k (([a0]:List Int))).bind fun t210=>(some t210))=some r:=h
  clear h
  obtain ⟨y207,hy207⟩:∃ y_:List Int,y_=(([a0]:List Int)):=⟨_,rfl⟩
  replace H:((girderref00_NatTrim.f k y207).bind fun t210=>(some t210))=some r:=by first|(rw [hy207];with_reducible exact H)|(have H2_:=(Option.bind_some _ _).symm.trans H;rw [hy207];with_reducible exact H2_)|(have H2_:=(Option.bind_some _ _).symm.trans H;with_reducible exact H2_)|with_reducible exact H|(rw [hy207];exact H)|exact H
  have Ny207:=Aside0.mk hy207
  clear hy207
  replace H:=Option.bind_eq_some_iff.mp H
  obtain ⟨t210,A20,H⟩:=H
  replace H:(some t210)=some r:=H
  have A2:=Aside0.mk A20
  clear A20
  obtain rfl:=Option.some.inj H
  go_enter Tryz.func105,Tryz.ntmps105
  go_wp2_with (first|((with_reducible refine gate_dst (N:=4) rfl ?_);refine Kd.R_lit (Kd.int .u64) _ 38 ?hg (N:=4) ?hd (xs:=([a0]:List Int)) (inner:=[.int .u64 a0]) (ok:=fun _=>True) (okp:=fun _=>True) ?hr ?hp (fun _ hk=>hk) trivial (Below.refl _ _) (Nat.le_refl _) (by simp) ?_;(case hd=>rfl);(case hg=>rfl);(case hr=>first|(go_simp;done)|(go_simp;rfl));(case hp=>exact (Reps.one (show Kd.M (Kd.int .u64) _ _ _ a0 [.int .u64 a0] from rfl) (Reps.none _ _)));intro v208 w3 ho4 hb hg_ hnew_;clear hg_ hnew_;(first|rw [← Ny207.out] at ho4|(simp only [Int.reduceToNat] at ho4;rw [← Ny207.out] at ho4));have n0_:=Aside0.mk (Kd.R_lower ho4 (below_size (by repeat (first|(with_reducible first|exact HB.out|apply below_alloc|apply pw_below_drewN|apply below_drew1)|exact HB.out))));have n1_:=Aside0.mk (below_step (by repeat (first|(with_reducible first|exact HB.out|apply below_alloc|apply pw_below_drewN|apply below_drew1)|exact HB.out)) hb);clear HB;have HO209:=n0_;have HB:=n1_;clear n0_ n1_;clear hb ho4;obtain ⟨Ao5,co5,eo5⟩:=Kd.R_slice HO209.out;subst eo5)|((with_reducible refine gate_callee (f:=129) rfl ?_);refine goesL_ (some 5) rfl rfl Tryz.func129 (by kernel_rfl) rfl #[.slice Ao5 y207.length co5] rfl (by (try simp only [List.map_toArray,List.map_cons,List.map_nil]);first|done|rfl|(simp only [List.length_drop,List.length_take];rfl)) ?_;(with_reducible refine (girderref00_NatTrim.calls k _ _ y207 t210 _ ?side1 ?side2 A2.out).mono ?_);(case side1=>repeat (first|exact (Kd.R_reads' HO209.out).2.2|(with_reducible refine Kd.C_alloc ?_ _)|(with_reducible refine Kd.C_drewN ?_ _)|(with_reducible refine Kd.C_drew ?_)));(case side2=>exact (Kd.R_reads' HO209.out).2.1);rintro e w6 ⟨v211,rfl,ho0,hb⟩;refine ⟨_,rfl,?_⟩;have n0_:=Aside0.mk (Kd.R_elder' (by (with_reducible repeat (first|apply Kd.R_alloc|apply Kd.R_drewN|apply Kd.R_drew));exact HO209.out) (Kd.R_base ho0) hb);have n1_:=Aside0.mk (Kd.R_lower (Kd.R_new' ho0 (Kd.R_lt (by (with_reducible repeat (first|apply Kd.R_alloc|apply Kd.R_drewN|apply Kd.R_drew));exact HO209.out))) (below_size (by repeat (first|(with_reducible first|exact HB.out|apply below_alloc|apply pw_below_drewN|apply below_drew1)|exact HB.out))));have n2_:=Aside0.mk (below_step (by repeat (first|(with_reducible first|exact HB.out|apply below_alloc|apply pw_below_drewN|apply below_drew1)|exact HB.out)) hb);clear HO209;clear HB;have HO209:=n0_;have HO212:=n1_;have HB:=n2_;clear n0_ n1_ n2_;(try clear hb);(try clear hb2);(try clear hk);(try clear hi);(try clear ho0)))
  go_ret
  exact ⟨_,by first|rfl|(simp [errW_none,errW_some] <;> rfl)|(simp [*,errW_none,errW_some] <;> rfl),by (with_reducible repeat (first|apply Kd.R_alloc|apply Kd.R_drewN|apply Kd.R_drew));exact Kd.R_mono HO212.out (fun _ hk=>trivial),by repeat (first|(with_reducible first|exact HB.out|apply below_alloc|apply pw_below_drewN|apply below_drew1)|exact HB.out)⟩
def girderref00_NatCmp.l0:Nat→List Int→List Int→Int→Option (Int)
  | 0,_,_,_=>none
  | k + 1,x5,x6,x7=>if x7 ≥ 0 then (if 0≤x7 then (if x7 < (x5.length:Int) then (if x7 < (x6.length:Int) then (if (rd x5 x7) < (rd x6 x7) then (some (-1)) else (if (rd x5 x7) > (rd x6 x7) then (some 1) else (girderref00_NatCmp.l0 k x5 x6 (wrap64 (x7 - 1))))) else (none)) else (none)) else (none)) else (some 0)
def girderref00_NatCmp.f (k:Nat) (l0:List Int) (l1:List Int):Option (Int):=(girderref00_NatTrim.f k l0).bind fun t213=>((girderref00_NatTrim.f k l1).bind fun t216=>(if (t213.length:Int)=(t216.length:Int) then (girderref00_NatCmp.l0 k t213 t216 (wrap64 ((t213.length:Int) - 1))) else (if (t213.length:Int) < (t216.length:Int) then (some (-1)) else (some 1))))
theorem girderref00_NatCmp.mono_l:∀ k,(∀ y0 y1 y2,LeO (girderref00_NatCmp.l0 k y0 y1 y2) (girderref00_NatCmp.l0 (k + 1) y0 y1 y2))
  | 0=>fun _ _ _ r h=>by simp [girderref00_NatCmp.l0] at h
  | k + 1=>by
    have ih0:=girderref00_NatCmp.mono_l k
    · intro y0 y1 y2
      unfold girderref00_NatCmp.l0
      repeat' first
      | (with_reducible exact ih0 _ _ _)
      | (with_reducible exact girderref00_NatTrim.mono _ _)
      | (with_reducible exact LeO.refl _)
      | (with_reducible exact LeO.none _)
      | (with_reducible refine LeO.ite ?_ ?_)
      | (with_reducible refine LeO.bind ?_ (fun _=>?_))
      | exact ih0 _ _ _
      | exact girderref00_NatTrim.mono _ _
      | exact LeO.none _
      | refine LeO.ite ?_ ?_
      | refine LeO.bind ?_ (fun _=>?_)
theorem girderref00_NatCmp.mono:∀ a0 a1 k,LeO (girderref00_NatCmp.f k a0 a1) (girderref00_NatCmp.f (k + 1) a0 a1):=by
  intro a0 a1 k
  have ih0:=girderref00_NatCmp.mono_l k
  unfold girderref00_NatCmp.f
  repeat' first
      | (with_reducible exact ih0 _ _ _)
      | (with_reducible exact girderref00_NatTrim.mono _ _)
      | (with_reducible exact LeO.refl _)
      | (with_reducible exact LeO.none _)
      | (with_reducible refine LeO.ite ?_ ?_)
      | (with_reducible refine LeO.bind ?_ (fun _=>?_))
      | exact ih0 _ _ _
      | exact girderref00_NatTrim.mono _ _
      | exact LeO.none _
      | refine LeO.ite ?_ ?_
      | refine LeO.bind ?_ (fun _=>?_)
set_option maxHeartbeats 8000000 in
set_option maxRecDepth 100000 in
theorem girderref00_NatCmp.calls (k:Nat) (A0:Option Addr) (c0:Nat) (l0:List Int) (A1:Option Addr) (c1:Nat) (l1:List Int) (r:Int) (w:World) (hr0:Kd.C (Kd.int .u64) w A0 l0.length l0) (hc0:l0.length≤c0) (hr1:Kd.C (Kd.int .u64) w A1 l1.length l1) (hc1:l1.length≤c1) (h:girderref00_NatCmp.f k l0 l1=some r) :
    Calls Tryz.prog 95 #[.slice A0 l0.length c0,.slice A1 l1.length c1] w fun e w'=>e=.returned (.int .i64 r)∧Below w.heap.size w w':=by
  have HR0:=Aside0.mk hr0
  have HC0:=Aside0.mk hc0
  clear hr0 hc0
  have HR1:=Aside0.mk hr1
  have HC1:=Aside0.mk hc1
  clear hr1 hc1
  have HB:=Aside0.mk (Below.refl w.heap.size w)
  have H:((girderref00_NatTrim.f k l0).bind fun t213=>((girderref00_NatTrim.f k l1).bind fun t216=>(if (t213.length:Int)=(t216.length:Int) then (girderref00_NatCmp.l0 k t213 t216 (wrap64 ((t213.length:Int) - 1))) else (if (t213.length:Int) < (t216.length:Int) then (some (-1)) else (some 1)))))=some r:=h
  clear h
  replace H:=Option.bind_eq_some_iff.mp H
  obtain ⟨t213,A30,H⟩:=H
  replace H:((girderref00_NatTrim.f k l1).bind fun t216=>(if (t213.length:Int)=(t216.length:Int) then (girderref00_NatCmp.l0 k t213 t216 (wrap64 ((t213.length:Int) - 1))) else (if (t213.length:Int) < (t216.length:Int) then (some (-1)) else (some 1))))=some r:=H
  have A3:=Aside0.mk A30
  clear A30
  replace H:=Option.bind_eq_some_iff.mp H
  obtain ⟨t216,A40,H⟩:=H
  replace H:(if (t213.length:Int)=(t216.length:Int) then (girderref00_NatCmp.l0 k t213 t216 (wrap64 ((t213.length:Int) - 1))) else (if (t213.length:Int) < (t216.length:Int) then (some (-1)) else (some 1)))=some r:=H
  have A4:=Aside0.mk A40
  clear A40
  by_cases c5:(t213.length:Int)=(t216.length:Int)
  · rw [if_pos c5] at H
    have c5b0:((t213.length:Int) == (t216.length:Int))=true:=beq_iff_eq.mpr c5
    have c5b1:((t213.length:Int) != (t216.length:Int))=false:=bne_eq_false_iff_eq.mpr c5
    have c5b2:(t213.length == t216.length)=true:=by first|simpa using c5|(simp at c5 ⊢;omega)
    clear c5
    have H':=Aside0.mk H
    clear H
    go_enter Tryz.func95,Tryz.ntmps95
    go_wp2_with (first|(go_at_call 129;(with_reducible refine (girderref00_NatTrim.calls k _ _ l0 t213 _ ?side1 ?side2 A3.out).mono ?_);(case side1=>repeat (first|exact HR0.out|(with_reducible refine Kd.C_alloc ?_ _)|(with_reducible refine Kd.C_drewN ?_ _)|(with_reducible refine Kd.C_drew ?_)));(case side2=>exact HC0.out);rintro e w6 ⟨v214,rfl,ho0,hb⟩;have n0_:=Aside0.mk (Kd.R_lower ho0 (below_size (by repeat (first|(with_reducible first|exact HB.out|apply below_alloc|apply pw_below_drewN|apply below_drew1)|exact HB.out))));have n1_:=Aside0.mk (below_step (by repeat (first|(with_reducible first|exact HB.out|apply below_alloc|apply pw_below_drewN|apply below_drew1)|exact HB.out)) hb);clear HB;have HO215:=n0_;have HB:=n1_;clear n0_ n1_;(try clear hb);(try clear hb2);(try clear hk);(try clear hi);(try clear ho0))|(go_at_call 129;(with_reducible refine (girderref00_NatTrim.calls k _ _ l1 t216 _ ?side1 ?side2 A4.out).mono ?_);(case side1=>repeat (first|exact (Kd.C_below HR1.out HB.out)|(with_reducible refine Kd.C_alloc ?_ _)|(with_reducible refine Kd.C_drewN ?_ _)|(with_reducible refine Kd.C_drew ?_)));(case side2=>exact HC1.out);rintro e w7 ⟨v217,rfl,ho0,hb⟩;have n0_:=Aside0.mk (Kd.R_elder' (by (with_reducible repeat (first|apply Kd.R_alloc|apply Kd.R_drewN|apply Kd.R_drew));exact HO215.out) (Kd.R_base ho0) hb);have n1_:=Aside0.mk (Kd.R_lower (Kd.R_new' ho0 (Kd.R_lt (by (with_reducible repeat (first|apply Kd.R_alloc|apply Kd.R_drewN|apply Kd.R_drew));exact HO215.out))) (below_size (by repeat (first|(with_reducible first|exact HB.out|apply below_alloc|apply pw_below_drewN|apply below_drew1)|exact HB.out))));have n2_:=Aside0.mk (below_step (by repeat (first|(with_reducible first|exact HB.out|apply below_alloc|apply pw_below_drewN|apply below_drew1)|exact HB.out)) hb);clear HO215;clear HB;have HO215:=n0_;have HO218:=n1_;have HB:=n2_;clear n0_ n1_ n2_;(try clear hb);(try clear hb2);(try clear hk);(try clear hi);(try clear ho0);obtain ⟨Ao8,co8,eo8⟩:=Kd.R_slice HO215.out;subst eo8;obtain ⟨Ao9,co9,eo9⟩:=Kd.R_slice HO218.out;subst eo9))
    repeat (go_quiet (first|(go_at_call 129;(with_reducible refine (girderref00_NatTrim.calls k _ _ l0 t213 _ ?side1 ?side2 A3.out).mono ?_);(case side1=>repeat (first|exact HR0.out|(with_reducible refine Kd.C_alloc ?_ _)|(with_reducible refine Kd.C_drewN ?_ _)|(with_reducible refine Kd.C_drew ?_)));(case side2=>exact HC0.out);rintro e w6 ⟨v214,rfl,ho0,hb⟩;have n0_:=Aside0.mk (Kd.R_lower ho0 (below_size (by repeat (first|(with_reducible first|exact HB.out|apply below_alloc|apply pw_below_drewN|apply below_drew1)|exact HB.out))));have n1_:=Aside0.mk (below_step (by repeat (first|(with_reducible first|exact HB.out|apply below_alloc|apply pw_below_drewN|apply below_drew1)|exact HB.out)) hb);clear HB;have HO215:=n0_;have HB:=n1_;clear n0_ n1_;(try clear hb);(try clear hb2);(try clear hk);(try clear hi);(try clear ho0))|(go_at_call 129;(with_reducible refine (girderref00_NatTrim.calls k _ _ l1 t216 _ ?side1 ?side2 A4.out).mono ?_);(case side1=>repeat (first|exact (Kd.C_below HR1.out HB.out)|(with_reducible refine Kd.C_alloc ?_ _)|(with_reducible refine Kd.C_drewN ?_ _)|(with_reducible refine Kd.C_drew ?_)));(case side2=>exact HC1.out);rintro e w7 ⟨v217,rfl,ho0,hb⟩;have n0_:=Aside0.mk (Kd.R_elder' (by (with_reducible repeat (first|apply Kd.R_alloc|apply Kd.R_drewN|apply Kd.R_drew));exact HO215.out) (Kd.R_base ho0) hb);have n1_:=Aside0.mk (Kd.R_lower (Kd.R_new' ho0 (Kd.R_lt (by (with_reducible repeat (first|apply Kd.R_alloc|apply Kd.R_drewN|apply Kd.R_drew));exact HO215.out))) (below_size (by repeat (first|(with_reducible first|exact HB.out|apply below_alloc|apply pw_below_drewN|apply below_drew1)|exact HB.out))));have n2_:=Aside0.mk (below_step (by repeat (first|(with_reducible first|exact HB.out|apply below_alloc|apply pw_below_drewN|apply below_drew1)|exact HB.out)) hb);clear HO215;clear HB;have HO215:=n0_;have HO218:=n1_;have HB:=n2_;clear n0_ n1_ n2_;(try clear hb);(try clear hb2);(try clear hk);(try clear hi);(try clear ho0);obtain ⟨Ao8,co8,eo8⟩:=Kd.R_slice HO215.out;subst eo8;obtain ⟨Ao9,co9,eo9⟩:=Kd.R_slice HO218.out;subst eo9));try go_wp2_with (first|(go_at_call 129;(with_reducible refine (girderref00_NatTrim.calls k _ _ l0 t213 _ ?side1 ?side2 A3.out).mono ?_);(case side1=>repeat (first|exact HR0.out|(with_reducible refine Kd.C_alloc ?_ _)|(with_reducible refine Kd.C_drewN ?_ _)|(with_reducible refine Kd.C_drew ?_)));(case side2=>exact HC0.out);rintro e w6 ⟨v214,rfl,ho0,hb⟩;have n0_:=Aside0.mk (Kd.R_lower ho0 (below_size (by repeat (first|(with_reducible first|exact HB.out|apply below_alloc|apply pw_below_drewN|apply below_drew1)|exact HB.out))));have n1_:=Aside0.mk (below_step (by repeat (first|(with_reducible first|exact HB.out|apply below_alloc|apply pw_below_drewN|apply below_drew1)|exact HB.out)) hb);clear HB;have HO215:=n0_;have HB:=n1_;clear n0_ n1_;(try clear hb);(try clear hb2);(try clear hk);(try clear hi);(try clear ho0))|(go_at_call 129;(with_reducible refine (girderref00_NatTrim.calls k _ _ l1 t216 _ ?side1 ?side2 A4.out).mono ?_);(case side1=>repeat (first|exact (Kd.C_below HR1.out HB.out)|(with_reducible refine Kd.C_alloc ?_ _)|(with_reducible refine Kd.C_drewN ?_ _)|(with_reducible refine Kd.C_drew ?_)));(case side2=>exact HC1.out);rintro e w7 ⟨v217,rfl,ho0,hb⟩;have n0_:=Aside0.mk (Kd.R_elder' (by (with_reducible repeat (first|apply Kd.R_alloc|apply Kd.R_drewN|apply Kd.R_drew));exact HO215.out) (Kd.R_base ho0) hb);have n1_:=Aside0.mk (Kd.R_lower (Kd.R_new' ho0 (Kd.R_lt (by (with_reducible repeat (first|apply Kd.R_alloc|apply Kd.R_drewN|apply Kd.R_drew));exact HO215.out))) (below_size (by repeat (first|(with_reducible first|exact HB.out|apply below_alloc|apply pw_below_drewN|apply below_drew1)|exact HB.out))));have n2_:=Aside0.mk (below_step (by repeat (first|(with_reducible first|exact HB.out|apply below_alloc|apply pw_below_drewN|apply below_drew1)|exact HB.out)) hb);clear HO215;clear HB;have HO215:=n0_;have HO218:=n1_;have HB:=n2_;clear n0_ n1_ n2_;(try clear hb);(try clear hb2);(try clear hk);(try clear hi);(try clear ho0);obtain ⟨Ao8,co8,eo8⟩:=Kd.R_slice HO215.out;subst eo8;obtain ⟨Ao9,co9,eo9⟩:=Kd.R_slice HO218.out;subst eo9)))
    go_loopg [7] k (fun kq v7 w'=>∃ (x7_1:Int),v7=.int .i64 x7_1∧Aside0 (girderref00_NatCmp.l0 kq t213 t216 x7_1=some r)∧Aside0 (kq≤k)∧Aside0 (Kd.R (Kd.int .u64) 38 w' w.heap.size (fun k_=>some k_ ≠ ((.slice Ao9 t216.length co9):Value).ownBlock) (.slice Ao8 t213.length co8) t213)∧Aside0 (Kd.R (Kd.int .u64) 38 w' w.heap.size (fun k_=>some k_ ≠ ((.slice Ao8 t213.length co8):Value).ownBlock) (.slice Ao9 t216.length co9) t216)∧Aside0 (Below w.heap.size w w'))
    case atStart=>exact ⟨(wrap64 ((t213.length:Int) - 1)),(by first|rfl|(simp;done)|(simp [*];done)),H',⟨Nat.le_refl _⟩,⟨by (with_reducible repeat (first|apply Kd.R_alloc|apply Kd.R_drewN|apply Kd.R_drew));exact Kd.R_mono HO215.out (fun _ hk=>hk.2)⟩,⟨by (with_reducible repeat (first|apply Kd.R_alloc|apply Kd.R_drewN|apply Kd.R_drew));exact Kd.R_mono HO218.out (fun _ hk=>hk.2)⟩,⟨by repeat (first|(with_reducible first|exact HB.out|apply below_alloc|apply pw_below_drewN|apply below_drew1)|exact HB.out)⟩⟩
    case round =>
      clear H'
      try clear c1
      try clear p2
      try clear c5
      try clear c5b0
      try clear c5b1
      try clear c5b2
      try clear p6
      try clear c9
      obtain ⟨x7_1,rfl,HA,HK1,HO_5,HO_6,HB⟩:=hrel
      cases gk with
      | zero=>exact absurd HA.out (by simp [girderref00_NatCmp.l0])
      | succ k1 =>
        have H:=HA.out
        clear HA
        simp only [girderref00_NatCmp.l0] at H
        by_cases c10:x7_1 ≥ 0
        · rw [if_pos c10] at H
          have c10b0:decide (0≤x7_1)=true:=decide_eq_true c10
          clear c10
          by_cases c11:0≤x7_1
          · rw [if_pos c11] at H
            have c11b0:decide (0≤x7_1)=true:=decide_eq_true c11
            clear c11
            by_cases c12:x7_1 < (t213.length:Int)
            · rw [if_pos c12] at H
              have c12b0:decide (x7_1 < (t213.length:Int))=true:=decide_eq_true c12
              clear c12
              by_cases c13:x7_1 < (t216.length:Int)
              · rw [if_pos c13] at H
                have c13b0:decide (x7_1 < (t216.length:Int))=true:=decide_eq_true c13
                clear c13
                by_cases c14:(rd t213 x7_1) < (rd t216 x7_1)
                · rw [if_pos c14] at H
                  have c14b0:decide ((rd t213 x7_1) < (rd t216 x7_1))=true:=decide_eq_true c14
                  clear c14
                  obtain rfl:=Option.some.inj H
                  have p219:0≤(x7_1:Int):=of_decide_eq_true (by first|(with_reducible assumption)|assumption)
                  have q219:x7_1 < (t213.length:Int):=of_decide_eq_true (by first|(with_reducible assumption)|assumption)
                  obtain ⟨ad219,e219,hx219_0⟩:=Kd.at_int (Kd.R_reads' HO_5.out).2.2 x7_1 p219 q219
                  cases e219
                  replace p219:=eq_true p219
                  replace q219:=eq_true q219
                  have p220:0≤(x7_1:Int):=of_decide_eq_true (by first|(with_reducible assumption)|assumption)
                  have q220:x7_1 < (t216.length:Int):=of_decide_eq_true (by first|(with_reducible assumption)|assumption)
                  obtain ⟨ad220,e220,hx220_0⟩:=Kd.at_int (Kd.R_reads' HO_6.out).2.2 x7_1 p220 q220
                  cases e220
                  replace p220:=eq_true p220
                  replace q220:=eq_true q220
                  go_wp2
                  repeat (go_quiet (fail);try go_wp2)
                  go_ret
                  exact ⟨by first|rfl|(simp [errW_none,errW_some] <;> rfl)|(simp [*,errW_none,errW_some] <;> rfl),by repeat (first|(with_reducible first|exact HB.out|apply below_alloc|apply pw_below_drewN|apply below_drew1)|exact HB.out)⟩
                · rw [if_neg c14] at H
                  have c14b0:decide ((rd t213 x7_1) < (rd t216 x7_1))=false:=decide_eq_false c14
                  clear c14
                  by_cases c15:(rd t213 x7_1) > (rd t216 x7_1)
                  · rw [if_pos c15] at H
                    have c15b0:decide ((rd t216 x7_1) < (rd t213 x7_1))=true:=decide_eq_true c15
                    clear c15
                    obtain rfl:=Option.some.inj H
                    have p219:0≤(x7_1:Int):=of_decide_eq_true (by first|(with_reducible assumption)|assumption)
                    have q219:x7_1 < (t213.length:Int):=of_decide_eq_true (by first|(with_reducible assumption)|assumption)
                    obtain ⟨ad219,e219,hx219_0⟩:=Kd.at_int (Kd.R_reads' HO_5.out).2.2 x7_1 p219 q219
                    cases e219
                    replace p219:=eq_true p219
                    replace q219:=eq_true q219
                    have p220:0≤(x7_1:Int):=of_decide_eq_true (by first|(with_reducible assumption)|assumption)
                    have q220:x7_1 < (t216.length:Int):=of_decide_eq_true (by first|(with_reducible assumption)|assumption)
                    obtain ⟨ad220,e220,hx220_0⟩:=Kd.at_int (Kd.R_reads' HO_6.out).2.2 x7_1 p220 q220
                    cases e220
                    replace p220:=eq_true p220
                    replace q220:=eq_true q220
                    have p221:0≤(x7_1:Int):=of_decide_eq_true (by first|(with_reducible assumption)|assumption)
                    have q221:x7_1 < (t213.length:Int):=of_decide_eq_true (by first|(with_reducible assumption)|assumption)
                    obtain ⟨ad221,e221,hx221_0⟩:=Kd.at_int (Kd.R_reads' HO_5.out).2.2 x7_1 p221 q221
                    obtain rfl:ad219=ad221:=(by injection e221)
                    replace p221:=eq_true p221
                    replace q221:=eq_true q221
                    have p222:0≤(x7_1:Int):=of_decide_eq_true (by first|(with_reducible assumption)|assumption)
                    have q222:x7_1 < (t216.length:Int):=of_decide_eq_true (by first|(with_reducible assumption)|assumption)
                    obtain ⟨ad222,e222,hx222_0⟩:=Kd.at_int (Kd.R_reads' HO_6.out).2.2 x7_1 p222 q222
                    obtain rfl:ad220=ad222:=(by injection e222)
                    replace p222:=eq_true p222
                    replace q222:=eq_true q222
                    go_wp2
                    repeat (go_quiet (fail);try go_wp2)
                    go_ret
                    exact ⟨by first|rfl|(simp [errW_none,errW_some] <;> rfl)|(simp [*,errW_none,errW_some] <;> rfl),by repeat (first|(with_reducible first|exact HB.out|apply below_alloc|apply pw_below_drewN|apply below_drew1)|exact HB.out)⟩
                  · rw [if_neg c15] at H
                    have c15b0:decide ((rd t216 x7_1) < (rd t213 x7_1))=false:=decide_eq_false c15
                    clear c15
                    have H':=Aside0.mk H
                    clear H
                    have p219:0≤(x7_1:Int):=of_decide_eq_true (by first|(with_reducible assumption)|assumption)
                    have q219:x7_1 < (t213.length:Int):=of_decide_eq_true (by first|(with_reducible assumption)|assumption)
                    obtain ⟨ad219,e219,hx219_0⟩:=Kd.at_int (Kd.R_reads' HO_5.out).2.2 x7_1 p219 q219
                    cases e219
                    replace p219:=eq_true p219
                    replace q219:=eq_true q219
                    have p220:0≤(x7_1:Int):=of_decide_eq_true (by first|(with_reducible assumption)|assumption)
                    have q220:x7_1 < (t216.length:Int):=of_decide_eq_true (by first|(with_reducible assumption)|assumption)
                    obtain ⟨ad220,e220,hx220_0⟩:=Kd.at_int (Kd.R_reads' HO_6.out).2.2 x7_1 p220 q220
                    cases e220
                    replace p220:=eq_true p220
                    replace q220:=eq_true q220
                    have p221:0≤(x7_1:Int):=of_decide_eq_true (by first|(with_reducible assumption)|assumption)
                    have q221:x7_1 < (t213.length:Int):=of_decide_eq_true (by first|(with_reducible assumption)|assumption)
                    obtain ⟨ad221,e221,hx221_0⟩:=Kd.at_int (Kd.R_reads' HO_5.out).2.2 x7_1 p221 q221
                    obtain rfl:ad219=ad221:=(by injection e221)
                    replace p221:=eq_true p221
                    replace q221:=eq_true q221
                    have p222:0≤(x7_1:Int):=of_decide_eq_true (by first|(with_reducible assumption)|assumption)
                    have q222:x7_1 < (t216.length:Int):=of_decide_eq_true (by first|(with_reducible assumption)|assumption)
                    obtain ⟨ad222,e222,hx222_0⟩:=Kd.at_int (Kd.R_reads' HO_6.out).2.2 x7_1 p222 q222
                    obtain rfl:ad220=ad222:=(by injection e222)
                    replace p222:=eq_true p222
                    replace q222:=eq_true q222
                    go_wp2
                    repeat (go_quiet (fail);try go_wp2)
                    go_roundg k1
                    case measure=>have:=HK1.out;omega
                    case rel=>exact ⟨(wrap64 (x7_1 - 1)),(by first|rfl|(simp;done)|(simp [*];done)),H',⟨by have:=HK1.out;omega⟩,⟨by (with_reducible repeat (first|apply Kd.R_alloc|apply Kd.R_drewN|apply Kd.R_drew));exact HO_5.out⟩,⟨by (with_reducible repeat (first|apply Kd.R_alloc|apply Kd.R_drewN|apply Kd.R_drew));exact HO_6.out⟩,⟨by repeat (first|(with_reducible first|exact HB.out|apply below_alloc|apply pw_below_drewN|apply below_drew1)|exact HB.out)⟩⟩
              · rw [if_neg c13] at H
                exact absurd H (by simp)
            · rw [if_neg c12] at H
              exact absurd H (by simp)
          · rw [if_neg c11] at H
            exact absurd H (by simp)
        · rw [if_neg c10] at H
          have c10b0:decide (0≤x7_1)=false:=decide_eq_false c10
          clear c10
          obtain rfl:=Option.some.inj H
          go_wp2
          repeat (go_quiet (fail);try go_wp2)
          go_ret
          exact ⟨by first|rfl|(simp [errW_none,errW_some] <;> rfl)|(simp [*,errW_none,errW_some] <;> rfl),by repeat (first|(with_reducible first|exact HB.out|apply below_alloc|apply pw_below_drewN|apply below_drew1)|exact HB.out)⟩
  · rw [if_neg c5] at H
    have c5b0:((t213.length:Int) == (t216.length:Int))=false:=beq_eq_false_iff_ne.mpr c5
    have c5b1:((t213.length:Int) != (t216.length:Int))=true:=bne_iff_ne.mpr c5
    have c5b2:(t213.length == t216.length)=false:=by first|simpa using c5|(simp at c5 ⊢;omega)
    by_cases c16:(t213.length:Int) < (t216.length:Int)
    · rw [if_pos c16] at H
      have c16b0:decide ((t213.length:Int) < (t216.length:Int))=true:=decide_eq_true c16
      have c16b1:decide (t213.length < t216.length)=true:=decide_eq_true (Int.ofNat_lt.mp c16)
      clear c16
      obtain rfl:=Option.some.inj H
      go_enter Tryz.func95,Tryz.ntmps95
      go_wp2_with (first|(go_at_call 129;(with_reducible refine (girderref00_NatTrim.calls k _ _ l0 t213 _ ?side1 ?side2 A3.out).mono ?_);(case side1=>repeat (first|exact HR0.out|(with_reducible refine Kd.C_alloc ?_ _)|(with_reducible refine Kd.C_drewN ?_ _)|(with_reducible refine Kd.C_drew ?_)));(case side2=>exact HC0.out);rintro e w17 ⟨v214,rfl,ho0,hb⟩;have n0_:=Aside0.mk (Kd.R_lower ho0 (below_size (by repeat (first|(with_reducible first|exact HB.out|apply below_alloc|apply pw_below_drewN|apply below_drew1)|exact HB.out))));have n1_:=Aside0.mk (below_step (by repeat (first|(with_reducible first|exact HB.out|apply below_alloc|apply pw_below_drewN|apply below_drew1)|exact HB.out)) hb);clear HB;have HO215:=n0_;have HB:=n1_;clear n0_ n1_;(try clear hb);(try clear hb2);(try clear hk);(try clear hi);(try clear ho0))|(go_at_call 129;(with_reducible refine (girderref00_NatTrim.calls k _ _ l1 t216 _ ?side1 ?side2 A4.out).mono ?_);(case side1=>repeat (first|exact (Kd.C_below HR1.out HB.out)|(with_reducible refine Kd.C_alloc ?_ _)|(with_reducible refine Kd.C_drewN ?_ _)|(with_reducible refine Kd.C_drew ?_)));(case side2=>exact HC1.out);rintro e w18 ⟨v217,rfl,ho0,hb⟩;have n0_:=Aside0.mk (Kd.R_elder' (by (with_reducible repeat (first|apply Kd.R_alloc|apply Kd.R_drewN|apply Kd.R_drew));exact HO215.out) (Kd.R_base ho0) hb);have n1_:=Aside0.mk (Kd.R_lower (Kd.R_new' ho0 (Kd.R_lt (by (with_reducible repeat (first|apply Kd.R_alloc|apply Kd.R_drewN|apply Kd.R_drew));exact HO215.out))) (below_size (by repeat (first|(with_reducible first|exact HB.out|apply below_alloc|apply pw_below_drewN|apply below_drew1)|exact HB.out))));have n2_:=Aside0.mk (below_step (by repeat (first|(with_reducible first|exact HB.out|apply below_alloc|apply pw_below_drewN|apply below_drew1)|exact HB.out)) hb);clear HO215;clear HB;have HO215:=n0_;have HO218:=n1_;have HB:=n2_;clear n0_ n1_ n2_;(try clear hb);(try clear hb2);(try clear hk);(try clear hi);(try clear ho0);obtain ⟨Ao19,co19,eo19⟩:=Kd.R_slice HO215.out;subst eo19;obtain ⟨Ao20,co20,eo20⟩:=Kd.R_slice HO218.out;subst eo20))
      repeat (go_quiet (first|(go_at_call 129;(with_reducible refine (girderref00_NatTrim.calls k _ _ l0 t213 _ ?side1 ?side2 A3.out).mono ?_);(case side1=>repeat (first|exact HR0.out|(with_reducible refine Kd.C_alloc ?_ _)|(with_reducible refine Kd.C_drewN ?_ _)|(with_reducible refine Kd.C_drew ?_)));(case side2=>exact HC0.out);rintro e w17 ⟨v214,rfl,ho0,hb⟩;have n0_:=Aside0.mk (Kd.R_lower ho0 (below_size (by repeat (first|(with_reducible first|exact HB.out|apply below_alloc|apply pw_below_drewN|apply below_drew1)|exact HB.out))));have n1_:=Aside0.mk (below_step (by repeat (first|(with_reducible first|exact HB.out|apply below_alloc|apply pw_below_drewN|apply below_drew1)|exact HB.out)) hb);clear HB;have HO215:=n0_;have HB:=n1_;clear n0_ n1_;(try clear hb);(try clear hb2);(try clear hk);(try clear hi);(try clear ho0))|(go_at_call 129;(with_reducible refine (girderref00_NatTrim.calls k _ _ l1 t216 _ ?side1 ?side2 A4.out).mono ?_);(case side1=>repeat (first|exact (Kd.C_below HR1.out HB.out)|(with_reducible refine Kd.C_alloc ?_ _)|(with_reducible refine Kd.C_drewN ?_ _)|(with_reducible refine Kd.C_drew ?_)));(case side2=>exact HC1.out);rintro e w18 ⟨v217,rfl,ho0,hb⟩;have n0_:=Aside0.mk (Kd.R_elder' (by (with_reducible repeat (first|apply Kd.R_alloc|apply Kd.R_drewN|apply Kd.R_drew));exact HO215.out) (Kd.R_base ho0) hb);have n1_:=Aside0.mk (Kd.R_lower (Kd.R_new' ho0 (Kd.R_lt (by (with_reducible repeat (first|apply Kd.R_alloc|apply Kd.R_drewN|apply Kd.R_drew));exact HO215.out))) (below_size (by repeat (first|(with_reducible first|exact HB.out|apply below_alloc|apply pw_below_drewN|apply below_drew1)|exact HB.out))));have n2_:=Aside0.mk (below_step (by repeat (first|(with_reducible first|exact HB.out|apply below_alloc|apply pw_below_drewN|apply below_drew1)|exact HB.out)) hb);clear HO215;clear HB;have HO215:=n0_;have HO218:=n1_;have HB:=n2_;clear n0_ n1_ n2_;(try clear hb);(try clear hb2);(try clear hk);(try clear hi);(try clear ho0);obtain ⟨Ao19,co19,eo19⟩:=Kd.R_slice HO215.out;subst eo19;obtain ⟨Ao20,co20,eo20⟩:=Kd.R_slice HO218.out;subst eo20));try go_wp2_with (first|(go_at_call 129;(with_reducible refine (girderref00_NatTrim.calls k _ _ l0 t213 _ ?side1 ?side2 A3.out).mono ?_);(case side1=>repeat (first|exact HR0.out|(with_reducible refine Kd.C_alloc ?_ _)|(with_reducible refine Kd.C_drewN ?_ _)|(with_reducible refine Kd.C_drew ?_)));(case side2=>exact HC0.out);rintro e w17 ⟨v214,rfl,ho0,hb⟩;have n0_:=Aside0.mk (Kd.R_lower ho0 (below_size (by repeat (first|(with_reducible first|exact HB.out|apply below_alloc|apply pw_below_drewN|apply below_drew1)|exact HB.out))));have n1_:=Aside0.mk (below_step (by repeat (first|(with_reducible first|exact HB.out|apply below_alloc|apply pw_below_drewN|apply below_drew1)|exact HB.out)) hb);clear HB;have HO215:=n0_;have HB:=n1_;clear n0_ n1_;(try clear hb);(try clear hb2);(try clear hk);(try clear hi);(try clear ho0))|(go_at_call 129;(with_reducible refine (girderref00_NatTrim.calls k _ _ l1 t216 _ ?side1 ?side2 A4.out).mono ?_);(case side1=>repeat (first|exact (Kd.C_below HR1.out HB.out)|(with_reducible refine Kd.C_alloc ?_ _)|(with_reducible refine Kd.C_drewN ?_ _)|(with_reducible refine Kd.C_drew ?_)));(case side2=>exact HC1.out);rintro e w18 ⟨v217,rfl,ho0,hb⟩;have n0_:=Aside0.mk (Kd.R_elder' (by (with_reducible repeat (first|apply Kd.R_alloc|apply Kd.R_drewN|apply Kd.R_drew));exact HO215.out) (Kd.R_base ho0) hb);have n1_:=Aside0.mk (Kd.R_lower (Kd.R_new' ho0 (Kd.R_lt (by (with_reducible repeat (first|apply Kd.R_alloc|apply Kd.R_drewN|apply Kd.R_drew));exact HO215.out))) (below_size (by repeat (first|(with_reducible first|exact HB.out|apply below_alloc|apply pw_below_drewN|apply below_drew1)|exact HB.out))));have n2_:=Aside0.mk (below_step (by repeat (first|(with_reducible first|exact HB.out|apply below_alloc|apply pw_below_drewN|apply below_drew1)|exact HB.out)) hb);clear HO215;clear HB;have HO215:=n0_;have HO218:=n1_;have HB:=n2_;clear n0_ n1_ n2_;(try clear hb);(try clear hb2);(try clear hk);(try clear hi);(try clear ho0);obtain ⟨Ao19,co19,eo19⟩:=Kd.R_slice HO215.out;subst eo19;obtain ⟨Ao20,co20,eo20⟩:=Kd.R_slice HO218.out;subst eo20)))
      go_ret
      exact ⟨by first|rfl|(simp [errW_none,errW_some] <;> rfl)|(simp [*,errW_none,errW_some] <;> rfl),by repeat (first|(with_reducible first|exact HB.out|apply below_alloc|apply pw_below_drewN|apply below_drew1)|exact HB.out)⟩
    · rw [if_neg c16] at H
      have c16b0:decide ((t213.length:Int) < (t216.length:Int))=false:=decide_eq_false c16
      have c16b1:decide (t213.length < t216.length)=false:=decide_eq_false (fun h=>c16 (Int.ofNat_lt.mpr h))
      clear c16
      obtain rfl:=Option.some.inj H
      go_enter Tryz.func95,Tryz.ntmps95
      go_wp2_with (first|(go_at_call 129;(with_reducible refine (girderref00_NatTrim.calls k _ _ l0 t213 _ ?side1 ?side2 A3.out).mono ?_);(case side1=>repeat (first|exact HR0.out|(with_reducible refine Kd.C_alloc ?_ _)|(with_reducible refine Kd.C_drewN ?_ _)|(with_reducible refine Kd.C_drew ?_)));(case side2=>exact HC0.out);rintro e w21 ⟨v214,rfl,ho0,hb⟩;have n0_:=Aside0.mk (Kd.R_lower ho0 (below_size (by repeat (first|(with_reducible first|exact HB.out|apply below_alloc|apply pw_below_drewN|apply below_drew1)|exact HB.out))));have n1_:=Aside0.mk (below_step (by repeat (first|(with_reducible first|exact HB.out|apply below_alloc|apply pw_below_drewN|apply below_drew1)|exact HB.out)) hb);clear HB;have HO215:=n0_;have HB:=n1_;clear n0_ n1_;(try clear hb);(try clear hb2);(try clear hk);(try clear hi);(try clear ho0))|(go_at_call 129;(with_reducible refine (girderref00_NatTrim.calls k _ _ l1 t216 _ ?side1 ?side2 A4.out).mono ?_);(case side1=>repeat (first|exact (Kd.C_below HR1.out HB.out)|(with_reducible refine Kd.C_alloc ?_ _)|(with_reducible refine Kd.C_drewN ?_ _)|(with_reducible refine Kd.C_drew ?_)));(case side2=>exact HC1.out);rintro e w22 ⟨v217,rfl,ho0,hb⟩;have n0_:=Aside0.mk (Kd.R_elder' (by (with_reducible repeat (first|apply Kd.R_alloc|apply Kd.R_drewN|apply Kd.R_drew));exact HO215.out) (Kd.R_base ho0) hb);have n1_:=Aside0.mk (Kd.R_lower (Kd.R_new' ho0 (Kd.R_lt (by (with_reducible repeat (first|apply Kd.R_alloc|apply Kd.R_drewN|apply Kd.R_drew));exact HO215.out))) (below_size (by repeat (first|(with_reducible first|exact HB.out|apply below_alloc|apply pw_below_drewN|apply below_drew1)|exact HB.out))));have n2_:=Aside0.mk (below_step (by repeat (first|(with_reducible first|exact HB.out|apply below_alloc|apply pw_below_drewN|apply below_drew1)|exact HB.out)) hb);clear HO215;clear HB;have HO215:=n0_;have HO218:=n1_;have HB:=n2_;clear n0_ n1_ n2_;(try clear hb);(try clear hb2);(try clear hk);(try clear hi);(try clear ho0);obtain ⟨Ao23,co23,eo23⟩:=Kd.R_slice HO215.out;subst eo23;obtain ⟨Ao24,co24,eo24⟩:=Kd.R_slice HO218.out;subst eo24))
      repeat (go_quiet (first|(go_at_call 129;(with_reducible refine (girderref00_NatTrim.calls k _ _ l0 t213 _ ?side1 ?side2 A3.out).mono ?_);(case side1=>repeat (first|exact HR0.out|(with_reducible refine Kd.C_alloc ?_ _)|(with_reducible refine Kd.C_drewN ?_ _)|(with_reducible refine Kd.C_drew ?_)));(case side2=>exact HC0.out);rintro e w21 ⟨v214,rfl,ho0,hb⟩;have n0_:=Aside0.mk (Kd.R_lower ho0 (below_size (by repeat (first|(with_reducible first|exact HB.out|apply below_alloc|apply pw_below_drewN|apply below_drew1)|exact HB.out))));have n1_:=Aside0.mk (below_step (by repeat (first|(with_reducible first|exact HB.out|apply below_alloc|apply pw_below_drewN|apply below_drew1)|exact HB.out)) hb);clear HB;have HO215:=n0_;have HB:=n1_;clear n0_ n1_;(try clear hb);(try clear hb2);(try clear hk);(try clear hi);(try clear ho0))|(go_at_call 129;(with_reducible refine (girderref00_NatTrim.calls k _ _ l1 t216 _ ?side1 ?side2 A4.out).mono ?_);(case side1=>repeat (first|exact (Kd.C_below HR1.out HB.out)|(with_reducible refine Kd.C_alloc ?_ _)|(with_reducible refine Kd.C_drewN ?_ _)|(with_reducible refine Kd.C_drew ?_)));(case side2=>exact HC1.out);rintro e w22 ⟨v217,rfl,ho0,hb⟩;have n0_:=Aside0.mk (Kd.R_elder' (by (with_reducible repeat (first|apply Kd.R_alloc|apply Kd.R_drewN|apply Kd.R_drew));exact HO215.out) (Kd.R_base ho0) hb);have n1_:=Aside0.mk (Kd.R_lower (Kd.R_new' ho0 (Kd.R_lt (by (with_reducible repeat (first|apply Kd.R_alloc|apply Kd.R_drewN|apply Kd.R_drew));exact HO215.out))) (below_size (by repeat (first|(with_reducible first|exact HB.out|apply below_alloc|apply pw_below_drewN|apply below_drew1)|exact HB.out))));have n2_:=Aside0.mk (below_step (by repeat (first|(with_reducible first|exact HB.out|apply below_alloc|apply pw_below_drewN|apply below_drew1)|exact HB.out)) hb);clear HO215;clear HB;have HO215:=n0_;have HO218:=n1_;have HB:=n2_;clear n0_ n1_ n2_;(try clear hb);(try clear hb2);(try clear hk);(try clear hi);(try clear ho0);obtain ⟨Ao23,co23,eo23⟩:=Kd.R_slice HO215.out;subst eo23;obtain ⟨Ao24,co24,eo24⟩:=Kd.R_slice HO218.out;subst eo24));try go_wp2_with (first|(go_at_call 129;(with_reducible refine (girderref00_NatTrim.calls k _ _ l0 t213 _ ?side1 ?side2 A3.out).mono ?_);(case side1=>repeat (first|exact HR0.out|(with_reducible refine Kd.C_alloc ?_ _)|(with_reducible refine Kd.C_drewN ?_ _)|(with_reducible refine Kd.C_drew ?_)));(case side2=>exact HC0.out);rintro e w21 ⟨v214,rfl,ho0,hb⟩;have n0_:=Aside0.mk (Kd.R_lower ho0 (below_size (by repeat (first|(with_reducible first|exact HB.out|apply below_alloc|apply pw_below_drewN|apply below_drew1)|exact HB.out))));have n1_:=Aside0.mk (below_step (by repeat (first|(with_reducible first|exact HB.out|apply below_alloc|apply pw_below_drewN|apply below_drew1)|exact HB.out)) hb);clear HB;have HO215:=n0_;have HB:=n1_;clear n0_ n1_;(try clear hb);(try clear hb2);(try clear hk);(try clear hi);(try clear ho0))|(go_at_call 129;(with_reducible refine (girderref00_NatTrim.calls k _ _ l1 t216 _ ?side1 ?side2 A4.out).mono ?_);(case side1=>repeat (first|exact (Kd.C_below HR1.out HB.out)|(with_reducible refine Kd.C_alloc ?_ _)|(with_reducible refine Kd.C_drewN ?_ _)|(with_reducible refine Kd.C_drew ?_)));(case side2=>exact HC1.out);rintro e w22 ⟨v217,rfl,ho0,hb⟩;have n0_:=Aside0.mk (Kd.R_elder' (by (with_reducible repeat (first|apply Kd.R_alloc|apply Kd.R_drewN|apply Kd.R_drew));exact HO215.out) (Kd.R_base ho0) hb);have n1_:=Aside0.mk (Kd.R_lower (Kd.R_new' ho0 (Kd.R_lt (by (with_reducible repeat (first|apply Kd.R_alloc|apply Kd.R_drewN|apply Kd.R_drew));exact HO215.out))) (below_size (by repeat (first|(with_reducible first|exact HB.out|apply below_alloc|apply pw_below_drewN|apply below_drew1)|exact HB.out))));have n2_:=Aside0.mk (below_step (by repeat (first|(with_reducible first|exact HB.out|apply below_alloc|apply pw_below_drewN|apply below_drew1)|exact HB.out)) hb);clear HO215;clear HB;have HO215:=n0_;have HO218:=n1_;have HB:=n2_;clear n0_ n1_ n2_;(try clear hb);(try clear hb2);(try clear hk);(try clear hi);(try clear ho0);obtain ⟨Ao23,co23,eo23⟩:=Kd.R_slice HO215.out;subst eo23;obtain ⟨Ao24,co24,eo24⟩:=Kd.R_slice HO218.out;subst eo24)))
      go_ret
      exact ⟨by first|rfl|(simp [errW_none,errW_some] <;> rfl)|(simp [*,errW_none,errW_some] <;> rfl),by repeat (first|(with_reducible first|exact HB.out|apply below_alloc|apply pw_below_drewN|apply below_drew1)|exact HB.out)⟩
def girderref00_NatBits.l0:Nat→Int→Int→Option (Int)
  | 0,_,_=>none
  | k + 1,x4,x5=>if x5 > 0 then (girderref00_NatBits.l0 k (wrap64 (x4 + 1)) (IntKind.u64.wrap (Int.tdiv x5 2))) else (some x4)
def girderref00_NatBits.f (k:Nat) (l0:List Int):Option (Int):=(girderref00_NatTrim.f k l0).bind fun t223=>(if (t223.length:Int)=0 then (some 0) else (if 0≤(wrap64 ((t223.length:Int) - 1)) then (if (wrap64 ((t223.length:Int) - 1)) < (t223.length:Int) then (girderref00_NatBits.l0 k (wrap64 (64 * (wrap64 ((t223.length:Int) - 1)))) (rd t223 (wrap64 ((t223.length:Int) - 1)))) else (none)) else (none)))
theorem girderref00_NatBits.mono_l:∀ k,(∀ y0 y1,LeO (girderref00_NatBits.l0 k y0 y1) (girderref00_NatBits.l0 (k + 1) y0 y1))
  | 0=>fun _ _ r h=>by simp [girderref00_NatBits.l0] at h
  | k + 1=>by
    have ih0:=girderref00_NatBits.mono_l k
    · intro y0 y1
      unfold girderref00_NatBits.l0
      repeat' first
      | (with_reducible exact ih0 _ _)
      | (with_reducible exact girderref00_NatTrim.mono _ _)
      | (with_reducible exact LeO.refl _)
      | (with_reducible exact LeO.none _)
      | (with_reducible refine LeO.ite ?_ ?_)
      | (with_reducible refine LeO.bind ?_ (fun _=>?_))
      | exact ih0 _ _
      | exact girderref00_NatTrim.mono _ _
      | exact LeO.none _
      | refine LeO.ite ?_ ?_
      | refine LeO.bind ?_ (fun _=>?_)
theorem girderref00_NatBits.mono:∀ a0 k,LeO (girderref00_NatBits.f k a0) (girderref00_NatBits.f (k + 1) a0):=by
  intro a0 k
  have ih0:=girderref00_NatBits.mono_l k
  unfold girderref00_NatBits.f
  repeat' first
      | (with_reducible exact ih0 _ _)
      | (with_reducible exact girderref00_NatTrim.mono _ _)
      | (with_reducible exact LeO.refl _)
      | (with_reducible exact LeO.none _)
      | (with_reducible refine LeO.ite ?_ ?_)
      | (with_reducible refine LeO.bind ?_ (fun _=>?_))
      | exact ih0 _ _
      | exact girderref00_NatTrim.mono _ _
      | exact LeO.none _
      | refine LeO.ite ?_ ?_
      | refine LeO.bind ?_ (fun _=>?_)
set_option maxHeartbeats 8000000 in
set_option maxRecDepth 100000 in
theorem girderref00_NatBits.calls (k:Nat) (A0:Option Addr) (c0:Nat) (l0:List Int) (r:Int) (w:World) (hr0:Kd.C (Kd.int .u64) w A0 l0.length l0) (hc0:l0.length≤c0) (h:girderref00_NatBits.f k l0=some r) :
    Calls Tryz.prog 103 #[.slice A0 l0.length c0] w fun e w'=>e=.returned (.int .i64 r)∧Below w.heap.size w w':=by
  have HR0:=Aside0.mk hr0
  have HC0:=Aside0.mk hc0
  clear hr0 hc0
  have HB:=Aside0.mk (Below.refl w.heap.size w)
  have H:((girderref00_NatTrim.f k l0).bind fun t223=>(if (t223.length:Int)=0 then (some 0) else (if 0≤(wrap64 ((t223.length:Int) - 1)) then (if (wrap64 ((t223.length:Int) - 1)) < (t223.length:Int) then (girderref00_NatBits.l0 k (wrap64 (64 * (wrap64 ((t223.length:Int) - 1)))) (rd t223 (wrap64 ((t223.length:Int) - 1)))) else (none)) else (none))))=some r:=h
  clear h
  replace H:=Option.bind_eq_some_iff.mp H
  obtain ⟨t223,A20,H⟩:=H
  replace H:(if (t223.length:Int)=0 then (some 0) else (if 0≤(wrap64 ((t223.length:Int) - 1)) then (if (wrap64 ((t223.length:Int) - 1)) < (t223.length:Int) then (girderref00_NatBits.l0 k (wrap64 (64 * (wrap64 ((t223.length:Int) - 1)))) (rd t223 (wrap64 ((t223.length:Int) - 1)))) else (none)) else (none)))=some r:=H
  have A2:=Aside0.mk A20
  clear A20
  by_cases c3:(t223.length:Int)=0
  · rw [if_pos c3] at H
    have c3b0:((t223.length:Int) == 0)=true:=beq_iff_eq.mpr c3
    have c3b1:((t223.length:Int) != 0)=false:=bne_eq_false_iff_eq.mpr c3
    clear c3
    obtain rfl:=Option.some.inj H
    go_enter Tryz.func103,Tryz.ntmps103
    go_wp2_with (first|((with_reducible refine gate_callee (f:=129) rfl ?_);refine goesL_ (some 7) rfl rfl Tryz.func129 (by kernel_rfl) rfl #[.slice A0 l0.length c0] rfl (by (try simp only [List.map_toArray,List.map_cons,List.map_nil]);first|done|rfl|(simp only [List.length_drop,List.length_take];rfl)) ?_;(with_reducible refine (girderref00_NatTrim.calls k _ _ l0 t223 _ ?side1 ?side2 A2.out).mono ?_);(case side1=>repeat (first|exact HR0.out|(with_reducible refine Kd.C_alloc ?_ _)|(with_reducible refine Kd.C_drewN ?_ _)|(with_reducible refine Kd.C_drew ?_)));(case side2=>exact HC0.out);rintro e w4 ⟨v224,rfl,ho0,hb⟩;refine ⟨_,rfl,?_⟩;have n0_:=Aside0.mk (Kd.R_lower ho0 (below_size (by repeat (first|(with_reducible first|exact HB.out|apply below_alloc|apply pw_below_drewN|apply below_drew1)|exact HB.out))));have n1_:=Aside0.mk (below_step (by repeat (first|(with_reducible first|exact HB.out|apply below_alloc|apply pw_below_drewN|apply below_drew1)|exact HB.out)) hb);clear HB;have HO225:=n0_;have HB:=n1_;clear n0_ n1_;(try clear hb);(try clear hb2);(try clear hk);(try clear hi);(try clear ho0);obtain ⟨Ao5,co5,eo5⟩:=Kd.R_slice HO225.out;subst eo5))
    go_ret
    exact ⟨by first|rfl|(simp [errW_none,errW_some] <;> rfl)|(simp [*,errW_none,errW_some] <;> rfl),by repeat (first|(with_reducible first|exact HB.out|apply below_alloc|apply pw_below_drewN|apply below_drew1)|exact HB.out)⟩
  · rw [if_neg c3] at H
    have c3b0:((t223.length:Int) == 0)=false:=beq_eq_false_iff_ne.mpr c3
    have c3b1:((t223.length:Int) != 0)=true:=bne_iff_ne.mpr c3
    have c3b2:¬ (t223=[]):=fun h_=>c3 (by rw [h_];rfl)
    obtain ⟨ji6,hji6⟩:∃ j_:Int,(wrap64 ((t223.length:Int) - 1))=j_:=⟨_,rfl⟩
    replace H:(if 0≤(ji6) then (if (ji6) < (t223.length:Int) then (girderref00_NatBits.l0 k (wrap64 (64 * (ji6))) (rd t223 (ji6))) else (none)) else (none))=some r:=by first|(rw [hji6] at H;exact H)|(simp only [hji6] at H ⊢;exact H)
    (try rw [hji6] at A2)
    have hji6w:(IntKind.i64.wrap ((t223.length:Int) - 1))=ji6:=(i64_w _).trans hji6
    by_cases c7:0≤(ji6)
    · rw [if_pos c7] at H
      have c7b0:decide (0≤(ji6))=true:=decide_eq_true c7
      clear c7
      by_cases c8:(ji6) < (t223.length:Int)
      · rw [if_pos c8] at H
        have c8b0:decide ((ji6) < (t223.length:Int))=true:=decide_eq_true c8
        clear c8
        have H':=Aside0.mk H
        clear H
        go_enter Tryz.func103,Tryz.ntmps103
        go_wp2_with (first|((with_reducible refine gate_callee (f:=129) rfl ?_);refine goesL_ (some 7) rfl rfl Tryz.func129 (by kernel_rfl) rfl #[.slice A0 l0.length c0] rfl (by (try simp only [List.map_toArray,List.map_cons,List.map_nil]);first|done|rfl|(simp only [List.length_drop,List.length_take];rfl)) ?_;(with_reducible refine (girderref00_NatTrim.calls k _ _ l0 t223 _ ?side1 ?side2 A2.out).mono ?_);(case side1=>repeat (first|exact HR0.out|(with_reducible refine Kd.C_alloc ?_ _)|(with_reducible refine Kd.C_drewN ?_ _)|(with_reducible refine Kd.C_drew ?_)));(case side2=>exact HC0.out);rintro e w9 ⟨v224,rfl,ho0,hb⟩;refine ⟨_,rfl,?_⟩;have n0_:=Aside0.mk (Kd.R_lower ho0 (below_size (by repeat (first|(with_reducible first|exact HB.out|apply below_alloc|apply pw_below_drewN|apply below_drew1)|exact HB.out))));have n1_:=Aside0.mk (below_step (by repeat (first|(with_reducible first|exact HB.out|apply below_alloc|apply pw_below_drewN|apply below_drew1)|exact HB.out)) hb);clear HB;have HO225:=n0_;have HB:=n1_;clear n0_ n1_;(try clear hb);(try clear hb2);(try clear hk);(try clear hi);(try clear ho0);obtain ⟨Ao10,co10,eo10⟩:=Kd.R_slice HO225.out;subst eo10;have p226:0≤((ji6):Int):=of_decide_eq_true (by first|(with_reducible assumption)|assumption);have q226:(ji6) < (t223.length:Int):=of_decide_eq_true (by first|(with_reducible assumption)|assumption);obtain ⟨ad226,e226,hx226_0⟩:=Kd.at_int (Kd.R_reads' HO225.out).2.2 (ji6) p226 q226;cases e226;replace p226:=eq_true p226;replace q226:=eq_true q226))
        go_loopg [4,5] k (fun kq v4 v5 w'=>∃ (x4_1:Int) (x5_1:Int),v4=.int .i64 x4_1∧v5=.int .u64 x5_1∧Aside0 (girderref00_NatBits.l0 kq x4_1 x5_1=some r)∧Aside0 (kq≤k)∧Aside0 (Below w.heap.size w w'))
        case atStart=>exact ⟨(wrap64 (64 * (ji6))),(rd t223 (ji6)),(by first|rfl|(simp;done)|(simp only [← hji6] <;> (first|rfl|simp))|(simp [*];done)),(by first|rfl|(simp;done)|(simp only [← hji6] <;> (first|rfl|simp))|(simp [*];done)),H',⟨Nat.le_refl _⟩,⟨by repeat (first|(with_reducible first|exact HB.out|apply below_alloc|apply pw_below_drewN|apply below_drew1)|exact HB.out)⟩⟩
        case round =>
          clear H'
          try clear c1
          try clear p2
          try clear q2
          try clear hx2
          try clear c3
          try clear c3b0
          try clear c3b1
          try clear c3b2
          try clear p6
          try clear c7
          try clear c7b0
          try clear c8
          try clear c8b0
          try clear c10
          try clear hx226_0
          try clear p226
          try clear q226
          obtain ⟨x4_1,x5_1,rfl,rfl,HA,HK1,HB⟩:=hrel
          cases gk with
          | zero=>exact absurd HA.out (by simp [girderref00_NatBits.l0])
          | succ k1 =>
            have H:=HA.out
            clear HA
            simp only [girderref00_NatBits.l0] at H
            by_cases c11:x5_1 > 0
            · rw [if_pos c11] at H
              have c11b0:decide (0 < x5_1)=true:=decide_eq_true c11
              clear c11
              have H':=Aside0.mk H
              clear H
              go_wp2
              go_roundg k1
              case measure=>have:=HK1.out;omega
              case rel=>exact ⟨(wrap64 (x4_1 + 1)),(IntKind.u64.wrap (Int.tdiv x5_1 2)),(by first|rfl|(simp;done)|(simp [*];done)),(by first|rfl|(simp;done)|(simp [*];done)),H',⟨by have:=HK1.out;omega⟩,⟨by repeat (first|(with_reducible first|exact HB.out|apply below_alloc|apply pw_below_drewN|apply below_drew1)|exact HB.out)⟩⟩
            · rw [if_neg c11] at H
              have c11b0:decide (0 < x5_1)=false:=decide_eq_false c11
              clear c11
              obtain rfl:=Option.some.inj H
              go_wp2
              go_ret
              exact ⟨by first|rfl|(simp [errW_none,errW_some] <;> rfl)|(simp only [← hji6];first|rfl|(simp [errW_none,errW_some] <;> rfl))|(simp [*,errW_none,errW_some] <;> rfl),by repeat (first|(with_reducible first|exact HB.out|apply below_alloc|apply pw_below_drewN|apply below_drew1)|exact HB.out)⟩
      · rw [if_neg c8] at H
        exact absurd H (by simp)
    · rw [if_neg c7] at H
      exact absurd H (by simp)
end Go.Proofs.YtmndoelimincdaaGreatDoor.XRf
