import Derived.Test.YtalhpbilkhdfhaaDoorProg
import Derived.Below
import Derived.Deep.Draws
import Derived.Deep.AppendLies
import Derived.Maps.AppendAt
import Derived.OwnWalk
import Derived.Laws.BytesArg
import Derived.Laws.MakeOwn
import Derived.Laws.OwnMore
import Derived.Deep.OwnRows
import Derived.Tactics
import Derived.Lib.ConvBytes
import Derived.Laws.Slices
import Derived.WalkKit
import Derived.KernelRfl
import Derived.RowKit3
import Derived.Deep.LoopGhost
import Derived.Deep.QuietTactic
import Derived.BigQuiet
import Derived.WideLaws
import Derived.Deep.DeepCutAuto
import Derived.Deep.CutBlock
import Derived.Deep.RegionHeld3
import Derived.Laws.Rows
import Derived.Lib.AppendStr
import Derived.ArgAppend
import Derived.Laws.IdiomCopy
import Derived.OrdersHeld
import Derived.Laws.BitsLemmas
import Derived.RowKit
import Derived.Test.YtalhpbilkhdfhaaDoorTRTb
import Derived.Laws.StructEq
namespace Go.Proofs.YtalhpbilkhdfhaaDoor.XBn
open Go.RowKit Go.Proofs.YtalhpbilkhdfhaaDoorW.PrintWords Go.Proofs.YtalhpbilkhdfhaaDoorW.PrintLast Go.Proofs.YtalhpbilkhdfhaaDoorW.PrintMore
attribute [local go_sem] max2_int min2_int max_two min_two max_three min_three max_four min_four
set_option linter.unusedVariables false
set_option linter.unusedSimpArgs false
def errW:Option Int→Value
  | none=>.nilIface
  | some c=>.iface 0 (.int .i64 c)
theorem errW_none:errW none=.nilIface:=rfl
theorem errW_some (c:Int):errW (some c)=.iface 0 (.int .i64 c):=rfl
theorem info96:(Tryd.prog.info? 96).map (fun i=>(i.zero,i.size,i.bytes))=some (some (.int .u32 0),1,4):=by kernel_rfl
end Go.Proofs.YtalhpbilkhdfhaaDoor.XBn
namespace Go.Proofs.YtalhpbilkhdfhaaDoor.XBn
open Go.RowKit Go.Proofs.YtalhpbilkhdfhaaDoorW.PrintWords Go.Proofs.YtalhpbilkhdfhaaDoorW.PrintLast Go.Proofs.YtalhpbilkhdfhaaDoorW.PrintMore
attribute [local go_sem] max2_int min2_int max_two min_two max_three min_three max_four min_four
set_option linter.unusedVariables false
set_option linter.unusedSimpArgs false
theorem frz_at {w w':World} {m:Nat} {a:Addr} {b:Bool} (hq:w.drewN m=w') (h:w.frozen? a=b):w'.frozen? a=b:=by subst hq;exact h
def bignum_trim.l0:Nat→List Int→Int→Option (List Int)
  | 0,_,_=>none
  | k + 1,x0,x3=>if x3 > 0 then (if 0≤(wrap64 (x3 - 1)) then (if (wrap64 (x3 - 1)) < (x0.length:Int) then (if (rd x0 (wrap64 (x3 - 1)))=0 then (bignum_trim.l0 k x0 (wrap64 (x3 - 1))) else (if 0≤x3 then (if x3≤(x0.length:Int) then (some (x0.take (x3:Int).toNat)) else (none)) else (none))) else (none)) else (none)) else (if 0≤x3 then (if x3≤(x0.length:Int) then (some (x0.take (x3:Int).toNat)) else (none)) else (none))
def bignum_trim.f (k:Nat) (l0:List Int):Option (List Int):=bignum_trim.l0 k l0 (l0.length:Int)
theorem bignum_trim.mono_l:∀ k,(∀ y0 y1,LeO (bignum_trim.l0 k y0 y1) (bignum_trim.l0 (k + 1) y0 y1))
  | 0=>fun _ _ r h=>by simp [bignum_trim.l0] at h
  | k + 1=>by
    have ih0:=bignum_trim.mono_l k
    · intro y0 y1
      unfold bignum_trim.l0
      repeat' first
      | (with_reducible exact ih0 _ _)
      | (with_reducible exact LeO.refl _)
      | (with_reducible exact LeO.none _)
      | (with_reducible refine LeO.ite ?_ ?_)
      | (with_reducible refine LeO.bind ?_ (fun _=>?_))
      | exact ih0 _ _
      | exact LeO.none _
      | refine LeO.ite ?_ ?_
      | refine LeO.bind ?_ (fun _=>?_)
theorem bignum_trim.mono:∀ a0 k,LeO (bignum_trim.f k a0) (bignum_trim.f (k + 1) a0):=by
  intro a0 k
  have ih0:=bignum_trim.mono_l k
  unfold bignum_trim.f
  repeat' first
      | (with_reducible exact ih0 _ _)
      | (with_reducible exact LeO.refl _)
      | (with_reducible exact LeO.none _)
      | (with_reducible refine LeO.ite ?_ ?_)
      | (with_reducible refine LeO.bind ?_ (fun _=>?_))
      | exact ih0 _ _
      | exact LeO.none _
      | refine LeO.ite ?_ ?_
      | refine LeO.bind ?_ (fun _=>?_)
set_option maxHeartbeats 8000000 in
set_option maxRecDepth 100000 in
theorem bignum_trim.calls (k:Nat) (P0_:Nat→Prop) (u9000_:Value) (l0:List Int) (r:List Int) (w0 w:World) (hB:Below w0.heap.size w0 w) (ho0:Kd.R (Kd.int .u32) 96 w w0.heap.size P0_ u9000_ l0) (h:bignum_trim.f k l0=some r) :
    Calls Tryd.prog 91 #[u9000_] w fun e w'=>∃ v0_:Value,e=.returned (v0_)∧Kd.R (Kd.int .u32) 96 w' w0.heap.size (fun k_=>(P0_ k_ ∨ w.heap.size≤k_)) v0_ r∧Below w0.heap.size w0 w'∧Kept w w' (fun k_=>P0_ k_):=by
  have HO0:=Aside0.mk (show Kd.R (Kd.int .u32) 96 w w0.heap.size (fun k_=>(P0_ k_ ∨ w.heap.size≤k_)) u9000_ l0 from Kd.R_mono ho0 (fun k_ hk=>(.inl hk)))
  have HK:=Aside0.mk (Kept.refl w (fun k_=>P0_ k_))
  have HW0:=Aside0.mk hB.size
  have HB:=Aside0.mk hB
  clear hB
  have H:(bignum_trim.l0 k l0 (l0.length:Int))=some r:=h
  clear h
  have H':=Aside0.mk H
  clear H
  obtain ⟨Ao2,co2,eo2⟩:=Kd.R_slice HO0.out
  subst eo2
  go_enter Tryd.func91,Tryd.ntmps91
  go_wp2
  go_loopg [3] k (fun kq v3 w'=>∃ (x3_1:Int),v3=.int .i64 x3_1∧Aside0 (bignum_trim.l0 kq l0 x3_1=some r)∧Aside0 (kq≤k)∧Aside0 (Kd.R (Kd.int .u32) 96 w' w0.heap.size (fun k_=>(P0_ k_ ∨ w.heap.size≤k_)) (.slice Ao2 l0.length co2) l0)∧Aside0 (Kept w w' (fun k_=>P0_ k_))∧Aside0 (Below w0.heap.size w0 w'))
  case atStart=>exact ⟨((l0.length:Int)),(by first|rfl|(simp;done)|(simp [*];done)),H',⟨Nat.le_refl _⟩,⟨by (with_reducible repeat (first|apply Kd.R_alloc|apply Kd.R_drewN|apply Kd.R_drew));exact HO0.out⟩,⟨by repeat (first|(with_reducible first|exact HK.out|apply Kept.alloc|apply Kept.drewN|apply Kept.drew)|exact HK.out)⟩,⟨by repeat (first|(with_reducible first|exact HB.out|apply below_alloc|apply pw_below_drewN|apply below_drew1)|exact HB.out)⟩⟩
  case round =>
    clear H'
    try clear p2
    obtain ⟨x3_1,rfl,HA,HK1,HO_0,HK,HB⟩:=hrel
    cases gk with
    | zero=>exact absurd HA.out (by simp [bignum_trim.l0])
    | succ k1 =>
      have H:=HA.out
      clear HA
      simp only [bignum_trim.l0] at H
      by_cases c3:x3_1 > 0
      · rw [if_pos c3] at H
        have c3b0:decide (0 < x3_1)=true:=decide_eq_true c3
        clear c3
        obtain ⟨ji4,hji4⟩:∃ j_:Int,(wrap64 (x3_1 - 1))=j_:=⟨_,rfl⟩
        replace H:(if 0≤(ji4) then (if (ji4) < (l0.length:Int) then (if (rd l0 (ji4))=0 then (bignum_trim.l0 k1 l0 ji4) else (if 0≤x3_1 then (if x3_1≤(l0.length:Int) then (some (l0.take (x3_1:Int).toNat)) else (none)) else (none))) else (none)) else (none))=some r:=by first|(rw [hji4] at H;exact H)|(simp only [hji4] at H ⊢;exact H)
        have hji4w:(IntKind.i64.wrap (x3_1 - 1))=ji4:=(i64_w _).trans hji4
        by_cases c5:0≤(ji4)
        · rw [if_pos c5] at H
          have c5b0:decide (0≤(ji4))=true:=decide_eq_true c5
          clear c5
          by_cases c6:(ji4) < (l0.length:Int)
          · rw [if_pos c6] at H
            have c6b0:decide ((ji4) < (l0.length:Int))=true:=decide_eq_true c6
            clear c6
            by_cases c7:(rd l0 (ji4))=0
            · rw [if_pos c7] at H
              have c7b0:((rd l0 (ji4)) == 0)=true:=beq_iff_eq.mpr c7
              have c7b1:((rd l0 (ji4)) != 0)=false:=bne_eq_false_iff_eq.mpr c7
              clear c7
              have H':=Aside0.mk H
              clear H
              have p101:0≤((ji4):Int):=of_decide_eq_true (by first|(with_reducible assumption)|assumption)
              have q101:(ji4) < (l0.length:Int):=of_decide_eq_true (by first|(with_reducible assumption)|assumption)
              obtain ⟨ad101,e101,hx101_0⟩:=Kd.at_int (Kd.R_reads' HO_0.out).2.2 (ji4) p101 q101
              cases e101
              replace p101:=eq_true p101
              replace q101:=eq_true q101
              go_wp2
              go_roundg k1
              case measure=>have:=HK1.out;omega
              case rel=>exact ⟨(ji4),(by first|rfl|(simp;done)|(simp only [← hji4] <;> (first|rfl|simp))|(simp [*];done)),H',⟨by have:=HK1.out;omega⟩,⟨by (with_reducible repeat (first|apply Kd.R_alloc|apply Kd.R_drewN|apply Kd.R_drew));exact HO_0.out⟩,⟨by repeat (first|(with_reducible first|exact HK.out|apply Kept.alloc|apply Kept.drewN|apply Kept.drew)|exact HK.out)⟩,⟨by repeat (first|(with_reducible first|exact HB.out|apply below_alloc|apply pw_below_drewN|apply below_drew1)|exact HB.out)⟩⟩
            · rw [if_neg c7] at H
              have c7b0:((rd l0 (ji4)) == 0)=false:=beq_eq_false_iff_ne.mpr c7
              have c7b1:((rd l0 (ji4)) != 0)=true:=bne_iff_ne.mpr c7
              by_cases c8:0≤x3_1
              · rw [if_pos c8] at H
                have c8b0:=eq_true c8
                have c8b1:decide (0≤x3_1)=true:=decide_eq_true c8
                clear c8
                by_cases c9:x3_1≤(l0.length:Int)
                · rw [if_pos c9] at H
                  have c9b0:=eq_true c9
                  have c9b1:decide (x3_1≤(l0.length:Int))=true:=decide_eq_true c9
                  clear c9
                  obtain ⟨y102,hy102⟩:∃ y_:List Int,y_=(l0.take (x3_1:Int).toNat):=⟨_,rfl⟩
                  replace H:(some y102)=some r:=by first|(rw [hy102];with_reducible exact H)|(have H2_:=(Option.bind_some _ _).symm.trans H;rw [hy102];with_reducible exact H2_)|(have H2_:=(Option.bind_some _ _).symm.trans H;with_reducible exact H2_)|with_reducible exact H|(rw [hy102];exact H)|exact H
                  have Ny102:=Aside0.mk hy102
                  clear hy102
                  obtain rfl:=Option.some.inj H
                  have p101:0≤((ji4):Int):=of_decide_eq_true (by first|(with_reducible assumption)|assumption)
                  have q101:(ji4) < (l0.length:Int):=of_decide_eq_true (by first|(with_reducible assumption)|assumption)
                  obtain ⟨ad101,e101,hx101_0⟩:=Kd.at_int (Kd.R_reads' HO_0.out).2.2 (ji4) p101 q101
                  cases e101
                  replace p101:=eq_true p101
                  replace q101:=eq_true q101
                  have q10:(x3_1:Int)≤((l0.length:Int):Int):=of_decide_eq_true (by first|(with_reducible assumption)|assumption)
                  obtain ⟨i010,hi010,_,hsz10,_⟩:=info_parts info96
                  have hcut10:=cut_to (P:=Tryd.prog) 74 96 .i64 Tryd.underlying74 hi010 (some ad101) l0.length co2 x3_1 (of_decide_eq_true (by first|(with_reducible assumption)|assumption)) q10 (Kd.R_reads' HO_0.out).2.1
                  have hr10:=Kd.R_take (m:=(x3_1:Int).toNat) HO_0.out (by omega)
                  have hy10:y102.length=(x3_1:Int).toNat:=(by rw [Ny102.out,List.length_take];omega)
                  rw [← Ny102.out] at hr10
                  rw [← hy10] at hr10 hcut10
                  clear hy10 hi010 hsz10 HO_0
                  have HO104:=Aside0.mk hr10
                  clear hr10
                  replace q10:=eq_true q10
                  go_wp2
                  go_ret
                  exact ⟨_,by first|rfl|(simp [errW_none,errW_some] <;> rfl)|(simp only [← hji4];first|rfl|(simp [errW_none,errW_some] <;> rfl))|(simp [*,errW_none,errW_some] <;> rfl),by (with_reducible repeat (first|apply Kd.R_alloc|apply Kd.R_drewN|apply Kd.R_drew));exact HO104.out,by repeat (first|(with_reducible first|exact HB.out|apply below_alloc|apply pw_below_drewN|apply below_drew1)|exact HB.out),by repeat (first|(with_reducible first|exact HK.out|apply Kept.alloc|apply Kept.drewN|apply Kept.drew)|exact HK.out)⟩
                · rw [if_neg c9] at H
                  exact absurd H (by simp)
              · rw [if_neg c8] at H
                exact absurd H (by simp)
          · rw [if_neg c6] at H
            exact absurd H (by simp)
        · rw [if_neg c5] at H
          exact absurd H (by simp)
      · rw [if_neg c3] at H
        have c3b0:decide (0 < x3_1)=false:=decide_eq_false c3
        clear c3
        by_cases c11:0≤x3_1
        · rw [if_pos c11] at H
          have c11b0:=eq_true c11
          have c11b1:decide (0≤x3_1)=true:=decide_eq_true c11
          clear c11
          by_cases c12:x3_1≤(l0.length:Int)
          · rw [if_pos c12] at H
            have c12b0:=eq_true c12
            have c12b1:decide (x3_1≤(l0.length:Int))=true:=decide_eq_true c12
            clear c12
            obtain ⟨y105,hy105⟩:∃ y_:List Int,y_=(l0.take (x3_1:Int).toNat):=⟨_,rfl⟩
            replace H:(some y105)=some r:=by first|(rw [hy105];with_reducible exact H)|(have H2_:=(Option.bind_some _ _).symm.trans H;rw [hy105];with_reducible exact H2_)|(have H2_:=(Option.bind_some _ _).symm.trans H;with_reducible exact H2_)|with_reducible exact H|(rw [hy105];exact H)|exact H
            have Ny105:=Aside0.mk hy105
            clear hy105
            obtain rfl:=Option.some.inj H
            have q13:(x3_1:Int)≤((l0.length:Int):Int):=of_decide_eq_true (by first|(with_reducible assumption)|assumption)
            obtain ⟨i013,hi013,_,hsz13,_⟩:=info_parts info96
            have hcut13:=cut_to (P:=Tryd.prog) 74 96 .i64 Tryd.underlying74 hi013 Ao2 l0.length co2 x3_1 (of_decide_eq_true (by first|(with_reducible assumption)|assumption)) q13 (Kd.R_reads' HO_0.out).2.1
            have hr13:=Kd.R_take (m:=(x3_1:Int).toNat) HO_0.out (by omega)
            have hy13:y105.length=(x3_1:Int).toNat:=(by rw [Ny105.out,List.length_take];omega)
            rw [← Ny105.out] at hr13
            rw [← hy13] at hr13 hcut13
            clear hy13 hi013 hsz13 HO_0
            have HO107:=Aside0.mk hr13
            clear hr13
            replace q13:=eq_true q13
            go_wp2
            go_ret
            exact ⟨_,by first|rfl|(simp [errW_none,errW_some] <;> rfl)|(simp [*,errW_none,errW_some] <;> rfl),by (with_reducible repeat (first|apply Kd.R_alloc|apply Kd.R_drewN|apply Kd.R_drew));exact HO107.out,by repeat (first|(with_reducible first|exact HB.out|apply below_alloc|apply pw_below_drewN|apply below_drew1)|exact HB.out),by repeat (first|(with_reducible first|exact HK.out|apply Kept.alloc|apply Kept.drewN|apply Kept.drew)|exact HK.out)⟩
          · rw [if_neg c12] at H
            exact absurd H (by simp)
        · rw [if_neg c11] at H
          exact absurd H (by simp)
mutual
def bignum_mul.j0:Nat→List Int→List Int→Bool→Option (List Int)
  | 0,_,_,_=>none
  | k + 1,x0,x1,x16=>if x16=true then (some ([]:List Int)) else (if 0≤(wrap64 ((x0.length:Int) + (x1.length:Int))) then (if (wrap64 ((x0.length:Int) + (x1.length:Int)):Int).toNat≤70368744177664 then (bignum_mul.l0 k x0 x1 (List.replicate (wrap64 ((x0.length:Int) + (x1.length:Int)):Int).toNat 0) 0) else (none)) else (none))
def bignum_mul.l0:Nat→List Int→List Int→List Int→Int→Option (List Int)
  | 0,_,_,_,_=>none
  | k + 1,x0,x1,x5,x6=>if x6 < (x0.length:Int) then (bignum_mul.l1 k x0 x1 x5 x6 0 0) else ((bignum_trim.f k x5).bind fun t111=>(some t111))
def bignum_mul.l1:Nat→List Int→List Int→List Int→Int→Int→Int→Option (List Int)
  | 0,_,_,_,_,_,_=>none
  | k + 1,x0,x1,x5,x6,x7,x8=>if x8 < (x1.length:Int) then (if 0≤x6 then (if x6 < (x0.length:Int) then (if 0≤x8 then (if 0≤(wrap64 (x6 + x8)) then (if (wrap64 (x6 + x8)) < (x5.length:Int) then (bignum_mul.l1 k x0 x1 (x5.set ((wrap64 (x6 + x8)):Int).toNat ((IntKind.u64.wrap (x7 + (IntKind.u64.wrap ((IntKind.u64.wrap ((IntKind.u64.wrap (rd x0 x6)) * (IntKind.u64.wrap (rd x1 x8)))) + (IntKind.u64.wrap (rd x5 (wrap64 (x6 + x8)))))))) % 4294967296)) x6 ((IntKind.u64.wrap (x7 + (IntKind.u64.wrap ((IntKind.u64.wrap ((IntKind.u64.wrap (rd x0 x6)) * (IntKind.u64.wrap (rd x1 x8)))) + (IntKind.u64.wrap (rd x5 (wrap64 (x6 + x8)))))))) / 4294967296) (wrap64 (x8 + 1))) else (none)) else (none)) else (none)) else (none)) else (none)) else (if 0≤(wrap64 (x6 + (x1.length:Int))) then (if (wrap64 (x6 + (x1.length:Int))) < (x5.length:Int) then (bignum_mul.l0 k x0 x1 (x5.set ((wrap64 (x6 + (x1.length:Int))):Int).toNat ((x7) % 4294967296)) (wrap64 (x6 + 1))) else (none)) else (none))
end
def bignum_mul.f (k:Nat) (l0:List Int) (l1:List Int):Option (List Int):=if (l0.length:Int)=0 then (bignum_mul.j0 k l0 l1 true) else (bignum_mul.j0 k l0 l1 ((l1.length:Int) == 0))
theorem bignum_mul.mono_l:∀ k,(∀ y0 y1 y2,LeO (bignum_mul.j0 k y0 y1 y2) (bignum_mul.j0 (k + 1) y0 y1 y2))∧(∀ y0 y1 y2 y3,LeO (bignum_mul.l0 k y0 y1 y2 y3) (bignum_mul.l0 (k + 1) y0 y1 y2 y3))∧(∀ y0 y1 y2 y3 y4 y5,LeO (bignum_mul.l1 k y0 y1 y2 y3 y4 y5) (bignum_mul.l1 (k + 1) y0 y1 y2 y3 y4 y5))
  | 0=>⟨fun _ _ _ r h=>by simp [bignum_mul.j0] at h,fun _ _ _ _ r h=>by simp [bignum_mul.l0] at h,fun _ _ _ _ _ _ r h=>by simp [bignum_mul.l1] at h⟩
  | k + 1=>by
    obtain ⟨ih0,ih1,ih2⟩:=bignum_mul.mono_l k
    refine ⟨?_,?_,?_⟩
    · intro y0 y1 y2
      unfold bignum_mul.j0
      repeat' first
      | (with_reducible exact ih0 _ _ _)
      | (with_reducible exact ih1 _ _ _ _)
      | (with_reducible exact ih2 _ _ _ _ _ _)
      | (with_reducible exact bignum_trim.mono _ _)
      | (with_reducible exact LeO.refl _)
      | (with_reducible exact LeO.none _)
      | (with_reducible refine LeO.ite ?_ ?_)
      | (with_reducible refine LeO.bind ?_ (fun _=>?_))
      | exact ih0 _ _ _
      | exact ih1 _ _ _ _
      | exact ih2 _ _ _ _ _ _
      | exact bignum_trim.mono _ _
      | exact LeO.none _
      | refine LeO.ite ?_ ?_
      | refine LeO.bind ?_ (fun _=>?_)
    · intro y0 y1 y2 y3
      unfold bignum_mul.l0
      repeat' first
      | (with_reducible exact ih0 _ _ _)
      | (with_reducible exact ih1 _ _ _ _)
      | (with_reducible exact ih2 _ _ _ _ _ _)
      | (with_reducible exact bignum_trim.mono _ _)
      | (with_reducible exact LeO.refl _)
      | (with_reducible exact LeO.none _)
      | (with_reducible refine LeO.ite ?_ ?_)
      | (with_reducible refine LeO.bind ?_ (fun _=>?_))
      | exact ih0 _ _ _
      | exact ih1 _ _ _ _
      | exact ih2 _ _ _ _ _ _
      | exact bignum_trim.mono _ _
      | exact LeO.none _
      | refine LeO.ite ?_ ?_
      | refine LeO.bind ?_ (fun _=>?_)
    · intro y0 y1 y2 y3 y4 y5
      unfold bignum_mul.l1
      repeat' first
      | (with_reducible exact ih0 _ _ _)
      | (with_reducible exact ih1 _ _ _ _)
      | (with_reducible exact ih2 _ _ _ _ _ _)
      | (with_reducible exact bignum_trim.mono _ _)
      | (with_reducible exact LeO.refl _)
      | (with_reducible exact LeO.none _)
      | (with_reducible refine LeO.ite ?_ ?_)
      | (with_reducible refine LeO.bind ?_ (fun _=>?_))
      | exact ih0 _ _ _
      | exact ih1 _ _ _ _
      | exact ih2 _ _ _ _ _ _
      | exact bignum_trim.mono _ _
      | exact LeO.none _
      | refine LeO.ite ?_ ?_
      | refine LeO.bind ?_ (fun _=>?_)
theorem bignum_mul.mono:∀ a0 a1 k,LeO (bignum_mul.f k a0 a1) (bignum_mul.f (k + 1) a0 a1):=by
  intro a0 a1 k
  obtain ⟨ih0,ih1,ih2⟩:=bignum_mul.mono_l k
  unfold bignum_mul.f
  repeat' first
      | (with_reducible exact ih0 _ _ _)
      | (with_reducible exact ih1 _ _ _ _)
      | (with_reducible exact ih2 _ _ _ _ _ _)
      | (with_reducible exact bignum_trim.mono _ _)
      | (with_reducible exact LeO.refl _)
      | (with_reducible exact LeO.none _)
      | (with_reducible refine LeO.ite ?_ ?_)
      | (with_reducible refine LeO.bind ?_ (fun _=>?_))
      | exact ih0 _ _ _
      | exact ih1 _ _ _ _
      | exact ih2 _ _ _ _ _ _
      | exact bignum_trim.mono _ _
      | exact LeO.none _
      | refine LeO.ite ?_ ?_
      | refine LeO.bind ?_ (fun _=>?_)
set_option maxHeartbeats 8000000 in
set_option maxRecDepth 100000 in
theorem bignum_mul.calls (k:Nat) (A0:Option Addr) (c0:Nat) (l0:List Int) (A1:Option Addr) (c1:Nat) (l1:List Int) (r:List Int) (w:World) (hr0:Kd.C (Kd.int .u32) w A0 l0.length l0) (hc0:l0.length≤c0) (hr1:Kd.C (Kd.int .u32) w A1 l1.length l1) (hc1:l1.length≤c1) (h:bignum_mul.f k l0 l1=some r) :
    Calls Tryd.prog 81 #[.slice A0 l0.length c0,.slice A1 l1.length c1] w fun e w'=>∃ v0_:Value,e=.returned (v0_)∧Kd.R (Kd.int .u32) 96 w' w.heap.size (fun _=>True) v0_ r∧Below w.heap.size w w':=by
  have HR0:=Aside0.mk hr0
  have HC0:=Aside0.mk hc0
  clear hr0 hc0
  have HR1:=Aside0.mk hr1
  have HC1:=Aside0.mk hc1
  clear hr1 hc1
  have HB:=Aside0.mk (Below.refl w.heap.size w)
  have H:(if (l0.length:Int)=0 then (bignum_mul.j0 k l0 l1 true) else (bignum_mul.j0 k l0 l1 ((l1.length:Int) == 0)))=some r:=h
  clear h
  have HC3:=Aside0.mk H
  clear H
  go_enter Tryd.func81,Tryd.ntmps81
  go_upto_region 1 with (fail)
  repeat (go_quiet (fail);go_upto_region 1 with (fail))
  go_cut [16] (fun v16 wc=>∃ (kq:Nat) (x16_2:Bool),v16=.bool x16_2∧Aside0 (bignum_mul.j0 kq l0 l1 x16_2=some r)∧Aside0 (kq≤k)∧Aside0 (Below w.heap.size w wc))
  case first =>
    have H:=HC3.out
    clear HC3
    by_cases c4:(l0.length:Int)=0
    · rw [if_pos c4] at H
      have c4b0:((l0.length:Int) == 0)=true:=beq_iff_eq.mpr c4
      have c4b1:((l0.length:Int) != 0)=false:=bne_eq_false_iff_eq.mpr c4
      clear c4
      (first|rw [c4b0]|(simp only [i64_w,i32_w];rw [c4b0])|skip)
      have H':=Aside0.mk H
      clear H
      go_wp2
      repeat (go_quiet (fail);try go_wp2)
      go_meet
      case rel=>exact ⟨_,(true),(by first|rfl|(simp;done)|(simp [*];done)),H',⟨by first|omega|exact Nat.le_refl _⟩,⟨by repeat (first|(with_reducible first|exact HB.out|apply below_alloc|apply pw_below_drewN|apply below_drew1)|exact HB.out)⟩⟩
    · rw [if_neg c4] at H
      have c4b0:((l0.length:Int) == 0)=false:=beq_eq_false_iff_ne.mpr c4
      have c4b1:((l0.length:Int) != 0)=true:=bne_iff_ne.mpr c4
      have c4b2:¬ (l0=[]):=fun h_=>c4 (by rw [h_];rfl)
      (first|rw [c4b0]|(simp only [i64_w,i32_w];rw [c4b0])|skip)
      have H':=Aside0.mk H
      clear H
      go_wp2
      repeat (go_quiet (fail);try go_wp2)
      go_meet
      case rel=>exact ⟨_,(((l1.length:Int) == 0)),(by first|rfl|(simp;done)|(simp [*];done)),H',⟨by first|omega|exact Nat.le_refl _⟩,⟨by repeat (first|(with_reducible first|exact HB.out|apply below_alloc|apply pw_below_drewN|apply below_drew1)|exact HB.out)⟩⟩
  case rest =>
    clear HC3
    try clear c1
    try clear p2
    try clear c4
    try clear c4b0
    try clear c4b1
    try clear c4b2
    obtain ⟨kq,x16_2,rfl,HA,HJ2,HB⟩:=hcut
    cases kq with
    | zero=>exact absurd HA.out (by simp [bignum_mul.j0])
    | succ kj2 =>
      have H:=HA.out
      clear HA
      simp only [bignum_mul.j0] at H
      by_cases c5:x16_2=true
      · subst c5
        have H1:(some ([]:List Int))=some r:=by rw [if_pos rfl] at H;exact H
        clear H
        have H:=H1
        clear H1
        obtain rfl:=Option.some.inj H
        go_wp2
        repeat (go_quiet (fail);try go_wp2)
        go_ret
        exact ⟨_,by first|rfl|(simp [errW_none,errW_some] <;> rfl)|(simp [*,errW_none,errW_some] <;> rfl),by first|exact Kd.R_nil _ _ _ _ _|exact Kd.N_nil _ _ _ _ _|exact Kd.V_nil _ _ _ _ _|exact Kd.Q_nil _ _ _ _ _|exact Kd.S_nil _ _ _ _ _,by repeat (first|(with_reducible first|exact HB.out|apply below_alloc|apply pw_below_drewN|apply below_drew1)|exact HB.out)⟩
      · replace c5:=Bool.eq_false_iff.mpr c5
        subst c5
        have H1:(if 0≤(wrap64 ((l0.length:Int) + (l1.length:Int))) then (if (wrap64 ((l0.length:Int) + (l1.length:Int)):Int).toNat≤70368744177664 then (bignum_mul.l0 kj2 l0 l1 (List.replicate (wrap64 ((l0.length:Int) + (l1.length:Int)):Int).toNat 0) 0) else (none)) else (none))=some r:=by rw [if_neg (show ¬ (false=true) by decide)] at H;exact H
        clear H
        have H:=H1
        clear H1
        obtain ⟨ji6,hji6⟩:∃ j_:Int,(wrap64 ((l0.length:Int) + (l1.length:Int)))=j_:=⟨_,rfl⟩
        replace H:(if 0≤(ji6) then (if (ji6:Int).toNat≤70368744177664 then (bignum_mul.l0 kj2 l0 l1 (List.replicate (ji6:Int).toNat 0) 0) else (none)) else (none))=some r:=by first|(rw [hji6] at H;exact H)|(simp only [hji6] at H ⊢;exact H)
        have hji6w:(IntKind.i64.wrap ((l0.length:Int) + (l1.length:Int)))=ji6:=(i64_w _).trans hji6
        by_cases c7:0≤(ji6)
        · rw [if_pos c7] at H
          have c7b0:=eq_true c7
          have c7b1:decide (0≤(ji6))=true:=decide_eq_true c7
          clear c7
          by_cases c8:(ji6:Int).toNat≤70368744177664
          · rw [if_pos c8] at H
            have c8b0:=eq_true c8
            have c8b1:decide ((ji6:Int).toNat≤70368744177664)=true:=decide_eq_true c8
            clear c8
            obtain ⟨y108,hy108⟩:∃ y_:List Int,y_=(List.replicate (ji6:Int).toNat 0):=⟨_,rfl⟩
            replace H:(bignum_mul.l0 kj2 l0 l1 y108 0)=some r:=by first|(rw [hy108];with_reducible exact H)|(have H2_:=(Option.bind_some _ _).symm.trans H;rw [hy108];with_reducible exact H2_)|(have H2_:=(Option.bind_some _ _).symm.trans H;with_reducible exact H2_)|with_reducible exact H|(rw [hy108];exact H)|exact H
            have Ny108:=Aside0.mk hy108
            clear hy108
            have H':=Aside0.mk H
            clear H
            go_wp2_with (first|((with_reducible refine gate_dst (N:=22) rfl ?_);(try (refine gate_guard (by rfl) ?_;dsimp only));refine Kd.R_make (Kd.int .u32) _ 96 rfl (N:=22) rfl 74 _ _ rfl ji6 rfl rfl Tryd.underlying74 (.int .u32 0) 4 info96 rfl (by decide) (by omega) 0 (ok:=fun _=>True) (okp:=fun _=>True) rfl (fun _ hk=>hk) trivial (of_decide_eq_true (by first|(with_reducible assumption)|assumption)) (Nat.le_trans (Nat.mul_le_mul_right _ (of_decide_eq_true (by first|(with_reducible assumption)|assumption):ji6.toNat≤70368744177664)) (by omega)) (Below.refl _ _) (Nat.le_refl _) ?_;intro v109 w9 ho10 hb hg_ hnew_;clear hg_ hnew_;(first|rw [← Ny108.out] at ho10|(simp only [Int.reduceToNat] at ho10;rw [← Ny108.out] at ho10));have n0_:=Aside0.mk (Kd.R_lower ho10 (below_size (by repeat (first|(with_reducible first|exact HB.out|apply below_alloc|apply pw_below_drewN|apply below_drew1)|exact HB.out))));have n1_:=Aside0.mk (below_step (by repeat (first|(with_reducible first|exact HB.out|apply below_alloc|apply pw_below_drewN|apply below_drew1)|exact HB.out)) hb);clear HB;have HO110:=n0_;have HB:=n1_;clear n0_ n1_;clear hb ho10))
            repeat (go_quiet (first|((with_reducible refine gate_dst (N:=22) rfl ?_);(try (refine gate_guard (by rfl) ?_;dsimp only));refine Kd.R_make (Kd.int .u32) _ 96 rfl (N:=22) rfl 74 _ _ rfl ji6 rfl rfl Tryd.underlying74 (.int .u32 0) 4 info96 rfl (by decide) (by omega) 0 (ok:=fun _=>True) (okp:=fun _=>True) rfl (fun _ hk=>hk) trivial (of_decide_eq_true (by first|(with_reducible assumption)|assumption)) (Nat.le_trans (Nat.mul_le_mul_right _ (of_decide_eq_true (by first|(with_reducible assumption)|assumption):ji6.toNat≤70368744177664)) (by omega)) (Below.refl _ _) (Nat.le_refl _) ?_;intro v109 w9 ho10 hb hg_ hnew_;clear hg_ hnew_;(first|rw [← Ny108.out] at ho10|(simp only [Int.reduceToNat] at ho10;rw [← Ny108.out] at ho10));have n0_:=Aside0.mk (Kd.R_lower ho10 (below_size (by repeat (first|(with_reducible first|exact HB.out|apply below_alloc|apply pw_below_drewN|apply below_drew1)|exact HB.out))));have n1_:=Aside0.mk (below_step (by repeat (first|(with_reducible first|exact HB.out|apply below_alloc|apply pw_below_drewN|apply below_drew1)|exact HB.out)) hb);clear HB;have HO110:=n0_;have HB:=n1_;clear n0_ n1_;clear hb ho10));try go_wp2_with (first|((with_reducible refine gate_dst (N:=22) rfl ?_);(try (refine gate_guard (by rfl) ?_;dsimp only));refine Kd.R_make (Kd.int .u32) _ 96 rfl (N:=22) rfl 74 _ _ rfl ji6 rfl rfl Tryd.underlying74 (.int .u32 0) 4 info96 rfl (by decide) (by omega) 0 (ok:=fun _=>True) (okp:=fun _=>True) rfl (fun _ hk=>hk) trivial (of_decide_eq_true (by first|(with_reducible assumption)|assumption)) (Nat.le_trans (Nat.mul_le_mul_right _ (of_decide_eq_true (by first|(with_reducible assumption)|assumption):ji6.toNat≤70368744177664)) (by omega)) (Below.refl _ _) (Nat.le_refl _) ?_;intro v109 w9 ho10 hb hg_ hnew_;clear hg_ hnew_;(first|rw [← Ny108.out] at ho10|(simp only [Int.reduceToNat] at ho10;rw [← Ny108.out] at ho10));have n0_:=Aside0.mk (Kd.R_lower ho10 (below_size (by repeat (first|(with_reducible first|exact HB.out|apply below_alloc|apply pw_below_drewN|apply below_drew1)|exact HB.out))));have n1_:=Aside0.mk (below_step (by repeat (first|(with_reducible first|exact HB.out|apply below_alloc|apply pw_below_drewN|apply below_drew1)|exact HB.out)) hb);clear HB;have HO110:=n0_;have HB:=n1_;clear n0_ n1_;clear hb ho10)))
            go_loopg [6] kj2 (fun kq v6 w'=>∃ (x5_2:List Int) (x6_2:Int),v6=.int .i64 x6_2∧Aside0 (bignum_mul.l0 kq l0 l1 x5_2 x6_2=some r)∧Aside0 (kq≤kj2)∧Aside0 (Kd.R (Kd.int .u32) 96 w' w.heap.size (fun _=>True) v109 x5_2)∧Aside0 (Below w.heap.size w w'))
            case atStart=>exact ⟨(y108),(0),(by first|rfl|(simp;done)|(simp [*];done)),H',⟨Nat.le_refl _⟩,⟨by (with_reducible repeat (first|apply Kd.R_alloc|apply Kd.R_drewN|apply Kd.R_drew));exact HO110.out⟩,⟨by repeat (first|(with_reducible first|exact HB.out|apply below_alloc|apply pw_below_drewN|apply below_drew1)|exact HB.out)⟩⟩
            case round =>
              clear H'
              try clear c1
              try clear p2
              try clear c4
              try clear c4b0
              try clear c4b1
              try clear c4b2
              try clear c5
              try clear p6
              try clear c7
              try clear c7b0
              try clear c7b1
              try clear c8
              try clear c8b0
              try clear c8b1
              try clear p2
              obtain ⟨x5_2,x6_2,rfl,HA,HK2,HO_5,HB⟩:=hrel
              cases gk with
              | zero=>exact absurd HA.out (by simp [bignum_mul.l0])
              | succ k2 =>
                have H:=HA.out
                clear HA
                simp only [bignum_mul.l0] at H
                by_cases c11:x6_2 < (l0.length:Int)
                · rw [if_pos c11] at H
                  have c11b0:decide (x6_2 < (l0.length:Int))=true:=decide_eq_true c11
                  clear c11
                  have H':=Aside0.mk H
                  clear H
                  go_wp2
                  repeat (go_quiet (fail);try go_wp2)
                  go_loopg [7,8] k2 (fun kq v7 v8 w'=>∃ (x5_3:List Int) (x7_3:Int) (x8_3:Int),v7=.int .u64 x7_3∧v8=.int .i64 x8_3∧Aside0 (bignum_mul.l1 kq l0 l1 x5_3 x6_2 x7_3 x8_3=some r)∧Aside0 (kq≤k2)∧Aside0 (Kd.R (Kd.int .u32) 96 w' w.heap.size (fun _=>True) v109 x5_3)∧Aside0 (Below w.heap.size w w'))
                  case atStart=>exact ⟨(x5_2),(0),(0),(by first|rfl|(simp;done)|(simp [*];done)),(by first|rfl|(simp;done)|(simp [*];done)),H',⟨Nat.le_refl _⟩,⟨by (with_reducible repeat (first|apply Kd.R_alloc|apply Kd.R_drewN|apply Kd.R_drew));exact HO_5.out⟩,⟨by repeat (first|(with_reducible first|exact HB.out|apply below_alloc|apply pw_below_drewN|apply below_drew1)|exact HB.out)⟩⟩
                  case round =>
                    clear H'
                    try clear c1
                    try clear p2
                    try clear c4
                    try clear c4b0
                    try clear c4b1
                    try clear c4b2
                    try clear c5
                    try clear p6
                    try clear c7
                    try clear c7b0
                    try clear c7b1
                    try clear c8
                    try clear c8b0
                    try clear c8b1
                    try clear c11
                    try clear c11b0
                    try clear p2
                    try clear p6
                    obtain ⟨x5_3,x7_3,x8_3,rfl,rfl,HA,HK3,HO_5,HB⟩:=hrel
                    cases gk with
                    | zero=>exact absurd HA.out (by simp [bignum_mul.l1])
                    | succ k3 =>
                      have H:=HA.out
                      clear HA
                      simp only [bignum_mul.l1] at H
                      by_cases c12:x8_3 < (l1.length:Int)
                      · rw [if_pos c12] at H
                        have c12b0:decide (x8_3 < (l1.length:Int))=true:=decide_eq_true c12
                        clear c12
                        by_cases c13:0≤x6_2
                        · rw [if_pos c13] at H
                          have c13b0:decide (0≤x6_2)=true:=decide_eq_true c13
                          clear c13
                          by_cases c14:x6_2 < (l0.length:Int)
                          · rw [if_pos c14] at H
                            have c14b0:decide (x6_2 < (l0.length:Int))=true:=decide_eq_true c14
                            clear c14
                            by_cases c15:0≤x8_3
                            · rw [if_pos c15] at H
                              have c15b0:decide (0≤x8_3)=true:=decide_eq_true c15
                              clear c15
                              obtain ⟨ji16,hji16⟩:∃ j_:Int,(wrap64 (x6_2 + x8_3))=j_:=⟨_,rfl⟩
                              replace H:(if 0≤(ji16) then (if (ji16) < (x5_3.length:Int) then (bignum_mul.l1 k3 l0 l1 (x5_3.set ((ji16):Int).toNat ((IntKind.u64.wrap (x7_3 + (IntKind.u64.wrap ((IntKind.u64.wrap ((IntKind.u64.wrap (rd l0 x6_2)) * (IntKind.u64.wrap (rd l1 x8_3)))) + (IntKind.u64.wrap (rd x5_3 (ji16))))))) % 4294967296)) x6_2 ((IntKind.u64.wrap (x7_3 + (IntKind.u64.wrap ((IntKind.u64.wrap ((IntKind.u64.wrap (rd l0 x6_2)) * (IntKind.u64.wrap (rd l1 x8_3)))) + (IntKind.u64.wrap (rd x5_3 (ji16))))))) / 4294967296) (wrap64 (x8_3 + 1))) else (none)) else (none))=some r:=by first|(rw [hji16] at H;exact H)|(simp only [hji16] at H ⊢;exact H)
                              have hji16w:(IntKind.i64.wrap (x6_2 + x8_3))=ji16:=(i64_w _).trans hji16
                              by_cases c17:0≤(ji16)
                              · rw [if_pos c17] at H
                                have c17b0:decide (0≤(ji16))=true:=decide_eq_true c17
                                clear c17
                                by_cases c18:(ji16) < (x5_3.length:Int)
                                · rw [if_pos c18] at H
                                  have c18b0:decide ((ji16) < (x5_3.length:Int))=true:=decide_eq_true c18
                                  clear c18
                                  obtain ⟨y117,hy117⟩:∃ y_:List Int,y_=(x5_3.set ((ji16):Int).toNat ((IntKind.u64.wrap (x7_3 + (IntKind.u64.wrap ((IntKind.u64.wrap ((IntKind.u64.wrap (rd l0 x6_2)) * (IntKind.u64.wrap (rd l1 x8_3)))) + (IntKind.u64.wrap (rd x5_3 (ji16))))))) % 4294967296)):=⟨_,rfl⟩
                                  replace H:(bignum_mul.l1 k3 l0 l1 y117 x6_2 ((IntKind.u64.wrap (x7_3 + (IntKind.u64.wrap ((IntKind.u64.wrap ((IntKind.u64.wrap (rd l0 x6_2)) * (IntKind.u64.wrap (rd l1 x8_3)))) + (IntKind.u64.wrap (rd x5_3 (ji16))))))) / 4294967296) (wrap64 (x8_3 + 1)))=some r:=by first|(rw [hy117];with_reducible exact H)|(have H2_:=(Option.bind_some _ _).symm.trans H;rw [hy117];with_reducible exact H2_)|(have H2_:=(Option.bind_some _ _).symm.trans H;with_reducible exact H2_)|with_reducible exact H|(rw [hy117];exact H)|exact H
                                  have Ny117:=Aside0.mk hy117
                                  clear hy117
                                  have H':=Aside0.mk H
                                  clear H
                                  have p114:0≤(x6_2:Int):=of_decide_eq_true (by first|(with_reducible assumption)|assumption)
                                  have q114:x6_2 < (l0.length:Int):=of_decide_eq_true (by first|(with_reducible assumption)|assumption)
                                  obtain ⟨ad114,e114,hx114_0⟩:=Kd.at_int HR0.out x6_2 p114 q114
                                  cases e114
                                  replace hx114_0:=(HB.out.cell (World.block_lt_of_cell? w _ hx114_0)).trans hx114_0
                                  replace p114:=eq_true p114
                                  replace q114:=eq_true q114
                                  have p115:0≤(x8_3:Int):=of_decide_eq_true (by first|(with_reducible assumption)|assumption)
                                  have q115:x8_3 < (l1.length:Int):=of_decide_eq_true (by first|(with_reducible assumption)|assumption)
                                  obtain ⟨ad115,e115,hx115_0⟩:=Kd.at_int HR1.out x8_3 p115 q115
                                  cases e115
                                  replace hx115_0:=(HB.out.cell (World.block_lt_of_cell? w _ hx115_0)).trans hx115_0
                                  replace p115:=eq_true p115
                                  replace q115:=eq_true q115
                                  obtain ⟨Ao20,co20,eo20⟩:=Kd.R_slice HO_5.out
                                  subst eo20
                                  have p116:0≤((ji16):Int):=of_decide_eq_true (by first|(with_reducible assumption)|assumption)
                                  have q116:(ji16) < (x5_3.length:Int):=of_decide_eq_true (by first|(with_reducible assumption)|assumption)
                                  obtain ⟨ad116,e116,hx116_0⟩:=Kd.at_int (Kd.R_reads' HO_5.out).2.2 (ji16) p116 q116
                                  cases e116
                                  replace p116:=eq_true p116
                                  replace q116:=eq_true q116
                                  have p19:0≤((ji16):Int):=of_decide_eq_true (by first|(with_reducible assumption)|assumption)
                                  have q19:((ji16):Int) < ((x5_3.length:Int):Int):=of_decide_eq_true (by first|(with_reducible assumption)|assumption)
                                  obtain ⟨go19,co19,eo19,gb19,gl19,cl19,HG19⟩:=Kd.R_form HO_5.out (by omega)
                                  (first|cases eo19|(injection eo19 with ea_ en_ ec_;(first|subst ea_|(injection ea_ with ea_;subst ea_));subst ec_;clear en_))
                                  have GB19:=Aside0.mk gb19
                                  have GG19:=Aside0.mk HG19
                                  clear gb19 gl19 HG19
                                  (first|simp only [add_plain] at hx116_0|skip)
                                  obtain ⟨hx19_0,hf19_0⟩:=Kd.R_celln 0 HO_5.out ((ji16):Int) p19 q19
                                  replace p19:=eq_true p19
                                  replace q19:=eq_true q19
                                  have HP21:=Kd.R_putg HO_5.out ((ji16):Int) ((IntKind.u64.wrap (x7_3 + (IntKind.u64.wrap ((IntKind.u64.wrap ((IntKind.u64.wrap (rd l0 x6_2)) * (IntKind.u64.wrap (rd l1 x8_3)))) + (IntKind.u64.wrap (rd x5_3 (ji16))))))) % 4294967296)
                                  go_wp2_with (first|((with_reducible refine gate_store (t:=96) (p:=62) rfl ?_);(try (rw [drewN_self wr];generalize hq_:World.drewN wr _=wr;have n0_:=Aside0.mk (Kd.R_at hq_ HO_5.out);have n1_:=Aside0.mk (below_at hq_ HB.out);have n2_:=cell_at hq_ hx19_0;have n3_:=frz_at hq_ hf19_0;clear hq_ HO_5 HB hx19_0 hf19_0;have hx19_0:=n2_;have hf19_0:=n3_;clear n2_ n3_;have HO_5:=n0_;have HB:=n1_;clear n0_ n1_;(try (have HP21:=Kd.R_putg HO_5.out ((ji16):Int) ((IntKind.u64.wrap (x7_3 + (IntKind.u64.wrap ((IntKind.u64.wrap ((IntKind.u64.wrap (rd l0 x6_2)) * (IntKind.u64.wrap (rd l1 x8_3)))) + (IntKind.u64.wrap (rd x5_3 (ji16))))))) % 4294967296)))));refine store_event (t:=96) (p:=62) (v:=?vo_w22) (w1:=(wr.setCell ⟨go19,((ji16):Int).toNat,none⟩ (.int .u32 ((IntKind.u64.wrap (x7_3 + (IntKind.u64.wrap ((IntKind.u64.wrap ((IntKind.u64.wrap (rd l0 x6_2)) * (IntKind.u64.wrap (rd l1 x8_3)))) + (IntKind.u64.wrap (rd x5_3 (ji16))))))) % 4294967296)))) ?hg ?ho ?hn ?hr ?_;(case ho=>rfl);(case hg=>rfl);(case hn=>rfl);(case hr=>first|(go_simp;done)|(go_simp;rfl));intro w22 hw;have hg:wr.grownBy w22 (some go19):=(by rw [hw];exact HP21.2);have hp_:Kd.R (Kd.int .u32) 96 w22 w.heap.size (fun _=>True) (.slice (some ⟨go19,0,none⟩) x5_3.length co20) y117:=(by rw [hw,Ny117.out];exact HP21.1);clear HP21;have n0_:=Aside0.mk (hp_);have n1_:=Aside0.mk ((by rw [hw];exact below_set (HB.out) GB19.out:Below w.heap.size w w22));clear HO_5;clear HB;have HO_5:=n0_;have HB:=n1_;clear n0_ n1_;clear hg hw hp_))
                                  repeat (go_quiet (first|((with_reducible refine gate_store (t:=96) (p:=62) rfl ?_);(try (rw [drewN_self wr];generalize hq_:World.drewN wr _=wr;have n0_:=Aside0.mk (Kd.R_at hq_ HO_5.out);have n1_:=Aside0.mk (below_at hq_ HB.out);have n2_:=cell_at hq_ hx19_0;have n3_:=frz_at hq_ hf19_0;clear hq_ HO_5 HB hx19_0 hf19_0;have hx19_0:=n2_;have hf19_0:=n3_;clear n2_ n3_;have HO_5:=n0_;have HB:=n1_;clear n0_ n1_;(try (have HP21:=Kd.R_putg HO_5.out ((ji16):Int) ((IntKind.u64.wrap (x7_3 + (IntKind.u64.wrap ((IntKind.u64.wrap ((IntKind.u64.wrap (rd l0 x6_2)) * (IntKind.u64.wrap (rd l1 x8_3)))) + (IntKind.u64.wrap (rd x5_3 (ji16))))))) % 4294967296)))));refine store_event (t:=96) (p:=62) (v:=?vo_w22) (w1:=(wr.setCell ⟨go19,((ji16):Int).toNat,none⟩ (.int .u32 ((IntKind.u64.wrap (x7_3 + (IntKind.u64.wrap ((IntKind.u64.wrap ((IntKind.u64.wrap (rd l0 x6_2)) * (IntKind.u64.wrap (rd l1 x8_3)))) + (IntKind.u64.wrap (rd x5_3 (ji16))))))) % 4294967296)))) ?hg ?ho ?hn ?hr ?_;(case ho=>rfl);(case hg=>rfl);(case hn=>rfl);(case hr=>first|(go_simp;done)|(go_simp;rfl));intro w22 hw;have hg:wr.grownBy w22 (some go19):=(by rw [hw];exact HP21.2);have hp_:Kd.R (Kd.int .u32) 96 w22 w.heap.size (fun _=>True) (.slice (some ⟨go19,0,none⟩) x5_3.length co20) y117:=(by rw [hw,Ny117.out];exact HP21.1);clear HP21;have n0_:=Aside0.mk (hp_);have n1_:=Aside0.mk ((by rw [hw];exact below_set (HB.out) GB19.out:Below w.heap.size w w22));clear HO_5;clear HB;have HO_5:=n0_;have HB:=n1_;clear n0_ n1_;clear hg hw hp_));try go_wp2_with (first|((with_reducible refine gate_store (t:=96) (p:=62) rfl ?_);(try (rw [drewN_self wr];generalize hq_:World.drewN wr _=wr;have n0_:=Aside0.mk (Kd.R_at hq_ HO_5.out);have n1_:=Aside0.mk (below_at hq_ HB.out);have n2_:=cell_at hq_ hx19_0;have n3_:=frz_at hq_ hf19_0;clear hq_ HO_5 HB hx19_0 hf19_0;have hx19_0:=n2_;have hf19_0:=n3_;clear n2_ n3_;have HO_5:=n0_;have HB:=n1_;clear n0_ n1_;(try (have HP21:=Kd.R_putg HO_5.out ((ji16):Int) ((IntKind.u64.wrap (x7_3 + (IntKind.u64.wrap ((IntKind.u64.wrap ((IntKind.u64.wrap (rd l0 x6_2)) * (IntKind.u64.wrap (rd l1 x8_3)))) + (IntKind.u64.wrap (rd x5_3 (ji16))))))) % 4294967296)))));refine store_event (t:=96) (p:=62) (v:=?vo_w22) (w1:=(wr.setCell ⟨go19,((ji16):Int).toNat,none⟩ (.int .u32 ((IntKind.u64.wrap (x7_3 + (IntKind.u64.wrap ((IntKind.u64.wrap ((IntKind.u64.wrap (rd l0 x6_2)) * (IntKind.u64.wrap (rd l1 x8_3)))) + (IntKind.u64.wrap (rd x5_3 (ji16))))))) % 4294967296)))) ?hg ?ho ?hn ?hr ?_;(case ho=>rfl);(case hg=>rfl);(case hn=>rfl);(case hr=>first|(go_simp;done)|(go_simp;rfl));intro w22 hw;have hg:wr.grownBy w22 (some go19):=(by rw [hw];exact HP21.2);have hp_:Kd.R (Kd.int .u32) 96 w22 w.heap.size (fun _=>True) (.slice (some ⟨go19,0,none⟩) x5_3.length co20) y117:=(by rw [hw,Ny117.out];exact HP21.1);clear HP21;have n0_:=Aside0.mk (hp_);have n1_:=Aside0.mk ((by rw [hw];exact below_set (HB.out) GB19.out:Below w.heap.size w w22));clear HO_5;clear HB;have HO_5:=n0_;have HB:=n1_;clear n0_ n1_;clear hg hw hp_)))
                                  go_roundg k3
                                  case measure=>have:=HJ2.out;have:=HK2.out;have:=HK3.out;omega
                                  case rel=>exact ⟨(y117),((IntKind.u64.wrap (x7_3 + (IntKind.u64.wrap ((IntKind.u64.wrap ((IntKind.u64.wrap (rd l0 x6_2)) * (IntKind.u64.wrap (rd l1 x8_3)))) + (IntKind.u64.wrap (rd x5_3 (ji16))))))) / 4294967296),(wrap64 (x8_3 + 1)),(by first|rfl|(simp;done)|(simp only [← hji16] <;> (first|rfl|simp))|(simp [*];done)),(by first|rfl|(simp;done)|(simp [*];done)),H',⟨by have:=HJ2.out;have:=HK2.out;have:=HK3.out;omega⟩,⟨by (with_reducible repeat (first|apply Kd.R_alloc|apply Kd.R_drewN|apply Kd.R_drew));exact HO_5.out⟩,⟨by repeat (first|(with_reducible first|exact HB.out|apply below_alloc|apply pw_below_drewN|apply below_drew1)|exact HB.out)⟩⟩
                                · rw [if_neg c18] at H
                                  exact absurd H (by simp)
                              · rw [if_neg c17] at H
                                exact absurd H (by simp)
                            · rw [if_neg c15] at H
                              exact absurd H (by simp)
                          · rw [if_neg c14] at H
                            exact absurd H (by simp)
                        · rw [if_neg c13] at H
                          exact absurd H (by simp)
                      · rw [if_neg c12] at H
                        have c12b0:decide (x8_3 < (l1.length:Int))=false:=decide_eq_false c12
                        clear c12
                        obtain ⟨ji23,hji23⟩:∃ j_:Int,(wrap64 (x6_2 + (l1.length:Int)))=j_:=⟨_,rfl⟩
                        replace H:(if 0≤(ji23) then (if (ji23) < (x5_3.length:Int) then (bignum_mul.l0 k3 l0 l1 (x5_3.set ((ji23):Int).toNat ((x7_3) % 4294967296)) (wrap64 (x6_2 + 1))) else (none)) else (none))=some r:=by first|(rw [hji23] at H;exact H)|(simp only [hji23] at H ⊢;exact H)
                        have hji23w:(IntKind.i64.wrap (x6_2 + (l1.length:Int)))=ji23:=(i64_w _).trans hji23
                        by_cases c24:0≤(ji23)
                        · rw [if_pos c24] at H
                          have c24b0:decide (0≤(ji23))=true:=decide_eq_true c24
                          clear c24
                          by_cases c25:(ji23) < (x5_3.length:Int)
                          · rw [if_pos c25] at H
                            have c25b0:decide ((ji23) < (x5_3.length:Int))=true:=decide_eq_true c25
                            clear c25
                            obtain ⟨y118,hy118⟩:∃ y_:List Int,y_=(x5_3.set ((ji23):Int).toNat ((x7_3) % 4294967296)):=⟨_,rfl⟩
                            replace H:(bignum_mul.l0 k3 l0 l1 y118 (wrap64 (x6_2 + 1)))=some r:=by first|(rw [hy118];with_reducible exact H)|(have H2_:=(Option.bind_some _ _).symm.trans H;rw [hy118];with_reducible exact H2_)|(have H2_:=(Option.bind_some _ _).symm.trans H;with_reducible exact H2_)|with_reducible exact H|(rw [hy118];exact H)|exact H
                            have Ny118:=Aside0.mk hy118
                            clear hy118
                            have H':=Aside0.mk H
                            clear H
                            have p26:0≤((ji23):Int):=of_decide_eq_true (by first|(with_reducible assumption)|assumption)
                            have q26:((ji23):Int) < ((x5_3.length:Int):Int):=of_decide_eq_true (by first|(with_reducible assumption)|assumption)
                            obtain ⟨go26,co26,eo26,gb26,gl26,cl26,HG26⟩:=Kd.R_form HO_5.out (by omega)
                            (first|cases eo26|(injection eo26 with ea_ en_ ec_;(first|subst ea_|(injection ea_ with ea_;subst ea_));subst ec_;clear en_))
                            have GB26:=Aside0.mk gb26
                            have GG26:=Aside0.mk HG26
                            clear gb26 gl26 HG26
                            obtain ⟨hx26_0,hf26_0⟩:=Kd.R_celln 0 HO_5.out ((ji23):Int) p26 q26
                            replace p26:=eq_true p26
                            replace q26:=eq_true q26
                            have HP27:=Kd.R_putg HO_5.out ((ji23):Int) ((x7_3) % 4294967296)
                            go_wp2_with (first|((with_reducible refine gate_store (t:=96) (p:=72) rfl ?_);(try (rw [drewN_self wr];generalize hq_:World.drewN wr _=wr;have n0_:=Aside0.mk (Kd.R_at hq_ HO_5.out);have n1_:=Aside0.mk (below_at hq_ HB.out);have n2_:=cell_at hq_ hx26_0;have n3_:=frz_at hq_ hf26_0;clear hq_ HO_5 HB hx26_0 hf26_0;have hx26_0:=n2_;have hf26_0:=n3_;clear n2_ n3_;have HO_5:=n0_;have HB:=n1_;clear n0_ n1_;(try (have HP27:=Kd.R_putg HO_5.out ((ji23):Int) ((x7_3) % 4294967296)))));refine store_event (t:=96) (p:=72) (v:=?vo_w28) (w1:=(wr.setCell ⟨go26,((ji23):Int).toNat,none⟩ (.int .u32 ((x7_3) % 4294967296)))) ?hg ?ho ?hn ?hr ?_;(case ho=>rfl);(case hg=>rfl);(case hn=>rfl);(case hr=>first|(go_simp;done)|(go_simp;rfl));intro w28 hw;have hg:wr.grownBy w28 (some go26):=(by rw [hw];exact HP27.2);have hp_:Kd.R (Kd.int .u32) 96 w28 w.heap.size (fun _=>True) (.slice (some ⟨go26,0,none⟩) x5_3.length co26) y118:=(by rw [hw,Ny118.out];exact HP27.1);clear HP27;have n0_:=Aside0.mk (hp_);have n1_:=Aside0.mk ((by rw [hw];exact below_set (HB.out) GB26.out:Below w.heap.size w w28));clear HO_5;clear HB;have HO_5:=n0_;have HB:=n1_;clear n0_ n1_;clear hg hw hp_))
                            repeat (go_quiet (first|((with_reducible refine gate_store (t:=96) (p:=72) rfl ?_);(try (rw [drewN_self wr];generalize hq_:World.drewN wr _=wr;have n0_:=Aside0.mk (Kd.R_at hq_ HO_5.out);have n1_:=Aside0.mk (below_at hq_ HB.out);have n2_:=cell_at hq_ hx26_0;have n3_:=frz_at hq_ hf26_0;clear hq_ HO_5 HB hx26_0 hf26_0;have hx26_0:=n2_;have hf26_0:=n3_;clear n2_ n3_;have HO_5:=n0_;have HB:=n1_;clear n0_ n1_;(try (have HP27:=Kd.R_putg HO_5.out ((ji23):Int) ((x7_3) % 4294967296)))));refine store_event (t:=96) (p:=72) (v:=?vo_w28) (w1:=(wr.setCell ⟨go26,((ji23):Int).toNat,none⟩ (.int .u32 ((x7_3) % 4294967296)))) ?hg ?ho ?hn ?hr ?_;(case ho=>rfl);(case hg=>rfl);(case hn=>rfl);(case hr=>first|(go_simp;done)|(go_simp;rfl));intro w28 hw;have hg:wr.grownBy w28 (some go26):=(by rw [hw];exact HP27.2);have hp_:Kd.R (Kd.int .u32) 96 w28 w.heap.size (fun _=>True) (.slice (some ⟨go26,0,none⟩) x5_3.length co26) y118:=(by rw [hw,Ny118.out];exact HP27.1);clear HP27;have n0_:=Aside0.mk (hp_);have n1_:=Aside0.mk ((by rw [hw];exact below_set (HB.out) GB26.out:Below w.heap.size w w28));clear HO_5;clear HB;have HO_5:=n0_;have HB:=n1_;clear n0_ n1_;clear hg hw hp_));try go_wp2_with (first|((with_reducible refine gate_store (t:=96) (p:=72) rfl ?_);(try (rw [drewN_self wr];generalize hq_:World.drewN wr _=wr;have n0_:=Aside0.mk (Kd.R_at hq_ HO_5.out);have n1_:=Aside0.mk (below_at hq_ HB.out);have n2_:=cell_at hq_ hx26_0;have n3_:=frz_at hq_ hf26_0;clear hq_ HO_5 HB hx26_0 hf26_0;have hx26_0:=n2_;have hf26_0:=n3_;clear n2_ n3_;have HO_5:=n0_;have HB:=n1_;clear n0_ n1_;(try (have HP27:=Kd.R_putg HO_5.out ((ji23):Int) ((x7_3) % 4294967296)))));refine store_event (t:=96) (p:=72) (v:=?vo_w28) (w1:=(wr.setCell ⟨go26,((ji23):Int).toNat,none⟩ (.int .u32 ((x7_3) % 4294967296)))) ?hg ?ho ?hn ?hr ?_;(case ho=>rfl);(case hg=>rfl);(case hn=>rfl);(case hr=>first|(go_simp;done)|(go_simp;rfl));intro w28 hw;have hg:wr.grownBy w28 (some go26):=(by rw [hw];exact HP27.2);have hp_:Kd.R (Kd.int .u32) 96 w28 w.heap.size (fun _=>True) (.slice (some ⟨go26,0,none⟩) x5_3.length co26) y118:=(by rw [hw,Ny118.out];exact HP27.1);clear HP27;have n0_:=Aside0.mk (hp_);have n1_:=Aside0.mk ((by rw [hw];exact below_set (HB.out) GB26.out:Below w.heap.size w w28));clear HO_5;clear HB;have HO_5:=n0_;have HB:=n1_;clear n0_ n1_;clear hg hw hp_)))
                            go_roundg k3
                            case measure=>have:=HJ2.out;have:=HK2.out;have:=HK3.out;omega
                            case rel=>exact ⟨(y118),(wrap64 (x6_2 + 1)),(by first|rfl|(simp;done)|(simp [*];done)),H',⟨by have:=HJ2.out;have:=HK2.out;have:=HK3.out;omega⟩,⟨by (with_reducible repeat (first|apply Kd.R_alloc|apply Kd.R_drewN|apply Kd.R_drew));exact HO_5.out⟩,⟨by repeat (first|(with_reducible first|exact HB.out|apply below_alloc|apply pw_below_drewN|apply below_drew1)|exact HB.out)⟩⟩
                          · rw [if_neg c25] at H
                            exact absurd H (by simp)
                        · rw [if_neg c24] at H
                          exact absurd H (by simp)
                · rw [if_neg c11] at H
                  have c11b0:decide (x6_2 < (l0.length:Int))=false:=decide_eq_false c11
                  clear c11
                  replace H:=Option.bind_eq_some_iff.mp H
                  obtain ⟨t111,A290,H⟩:=H
                  replace H:(some t111)=some r:=H
                  have A29:=Aside0.mk A290
                  clear A290
                  obtain rfl:=Option.some.inj H
                  obtain ⟨Ao30,co30,eo30⟩:=Kd.R_slice HO_5.out
                  subst eo30
                  go_wp2_with (first|(go_at_call 91;(with_reducible refine (bignum_trim.calls k2 (fun k_=>some k_=(.slice Ao30 x5_2.length co30:Value).ownBlock) (.slice Ao30 x5_2.length co30) x5_2 t111 w _ ?side1 ?side2 A29.out).mono ?_);(case side1=>repeat (first|(with_reducible first|exact HB.out|apply below_alloc|apply pw_below_drewN|apply below_drew1)|exact HB.out));(case side2=>exact Kd.R_tight rfl HO_5.out);rintro e w31 ⟨v112,rfl,ho0,hb,hkp⟩;have n0_:=Aside0.mk (Kd.R_mono (ok':=fun k_=>True) ho0 (fun k_ hk_=>trivial));have n1_:=Aside0.mk (hb);clear HB;clear HO_5;have HO113:=n0_;have HB:=n1_;clear n0_ n1_;(try clear hb);(try clear hkp);(try clear ho0)))
                  repeat (go_quiet (first|(go_at_call 91;(with_reducible refine (bignum_trim.calls k2 (fun k_=>some k_=(.slice Ao30 x5_2.length co30:Value).ownBlock) (.slice Ao30 x5_2.length co30) x5_2 t111 w _ ?side1 ?side2 A29.out).mono ?_);(case side1=>repeat (first|(with_reducible first|exact HB.out|apply below_alloc|apply pw_below_drewN|apply below_drew1)|exact HB.out));(case side2=>exact Kd.R_tight rfl HO_5.out);rintro e w31 ⟨v112,rfl,ho0,hb,hkp⟩;have n0_:=Aside0.mk (Kd.R_mono (ok':=fun k_=>True) ho0 (fun k_ hk_=>trivial));have n1_:=Aside0.mk (hb);clear HB;clear HO_5;have HO113:=n0_;have HB:=n1_;clear n0_ n1_;(try clear hb);(try clear hkp);(try clear ho0)));try go_wp2_with (first|(go_at_call 91;(with_reducible refine (bignum_trim.calls k2 (fun k_=>some k_=(.slice Ao30 x5_2.length co30:Value).ownBlock) (.slice Ao30 x5_2.length co30) x5_2 t111 w _ ?side1 ?side2 A29.out).mono ?_);(case side1=>repeat (first|(with_reducible first|exact HB.out|apply below_alloc|apply pw_below_drewN|apply below_drew1)|exact HB.out));(case side2=>exact Kd.R_tight rfl HO_5.out);rintro e w31 ⟨v112,rfl,ho0,hb,hkp⟩;have n0_:=Aside0.mk (Kd.R_mono (ok':=fun k_=>True) ho0 (fun k_ hk_=>trivial));have n1_:=Aside0.mk (hb);clear HB;clear HO_5;have HO113:=n0_;have HB:=n1_;clear n0_ n1_;(try clear hb);(try clear hkp);(try clear ho0))))
                  go_ret
                  exact ⟨_,by first|rfl|(simp [errW_none,errW_some] <;> rfl)|(simp only [← hji6];first|rfl|(simp [errW_none,errW_some] <;> rfl))|(simp [*,errW_none,errW_some] <;> rfl),by (with_reducible repeat (first|apply Kd.R_alloc|apply Kd.R_drewN|apply Kd.R_drew));exact HO113.out,by repeat (first|(with_reducible first|exact HB.out|apply below_alloc|apply pw_below_drewN|apply below_drew1)|exact HB.out)⟩
          · rw [if_neg c8] at H
            exact absurd H (by simp)
        · rw [if_neg c7] at H
          exact absurd H (by simp)
def bignum_sub.l0:Nat→List Int→List Int→List Int→Int→Int→Option (List Int)
  | 0,_,_,_,_,_=>none
  | k + 1,x0,x1,x5,x6,x7=>if x7 < (x0.length:Int) then (if 0≤x7 then (if x7 < (x1.length:Int) then (if x7 < (x5.length:Int) then (bignum_sub.l0 k x0 x1 (x5.set (x7:Int).toNat ((IntKind.u64.wrap ((IntKind.u64.wrap ((IntKind.u64.wrap (rd x0 x7)) - x6)) - (IntKind.u64.wrap (rd x1 x7)))) % 4294967296)) ((IntKind.u64.wrap ((IntKind.u64.wrap ((IntKind.u64.wrap (rd x0 x7)) - x6)) - (IntKind.u64.wrap (rd x1 x7)))) / 9223372036854775808) (wrap64 (x7 + 1))) else (none)) else (if x7 < (x5.length:Int) then (bignum_sub.l0 k x0 x1 (x5.set (x7:Int).toNat ((IntKind.u64.wrap ((IntKind.u64.wrap (rd x0 x7)) - x6)) % 4294967296)) ((IntKind.u64.wrap ((IntKind.u64.wrap (rd x0 x7)) - x6)) / 9223372036854775808) (wrap64 (x7 + 1))) else (none))) else (none)) else ((bignum_trim.f k x5).bind fun t126=>(some t126))
def bignum_sub.f (k:Nat) (l0:List Int) (l1:List Int):Option (List Int):=if 0≤(l0.length:Int) then (if ((l0.length:Int):Int).toNat≤70368744177664 then (bignum_sub.l0 k l0 l1 (List.replicate ((l0.length:Int):Int).toNat 0) 0 0) else (none)) else (none)
theorem bignum_sub.mono_l:∀ k,(∀ y0 y1 y2 y3 y4,LeO (bignum_sub.l0 k y0 y1 y2 y3 y4) (bignum_sub.l0 (k + 1) y0 y1 y2 y3 y4))
  | 0=>fun _ _ _ _ _ r h=>by simp [bignum_sub.l0] at h
  | k + 1=>by
    have ih0:=bignum_sub.mono_l k
    · intro y0 y1 y2 y3 y4
      unfold bignum_sub.l0
      repeat' first
      | (with_reducible exact ih0 _ _ _ _ _)
      | (with_reducible exact bignum_trim.mono _ _)
      | (with_reducible exact LeO.refl _)
      | (with_reducible exact LeO.none _)
      | (with_reducible refine LeO.ite ?_ ?_)
      | (with_reducible refine LeO.bind ?_ (fun _=>?_))
      | exact ih0 _ _ _ _ _
      | exact bignum_trim.mono _ _
      | exact LeO.none _
      | refine LeO.ite ?_ ?_
      | refine LeO.bind ?_ (fun _=>?_)
theorem bignum_sub.mono:∀ a0 a1 k,LeO (bignum_sub.f k a0 a1) (bignum_sub.f (k + 1) a0 a1):=by
  intro a0 a1 k
  have ih0:=bignum_sub.mono_l k
  unfold bignum_sub.f
  repeat' first
      | (with_reducible exact ih0 _ _ _ _ _)
      | (with_reducible exact bignum_trim.mono _ _)
      | (with_reducible exact LeO.refl _)
      | (with_reducible exact LeO.none _)
      | (with_reducible refine LeO.ite ?_ ?_)
      | (with_reducible refine LeO.bind ?_ (fun _=>?_))
      | exact ih0 _ _ _ _ _
      | exact bignum_trim.mono _ _
      | exact LeO.none _
      | refine LeO.ite ?_ ?_
      | refine LeO.bind ?_ (fun _=>?_)
set_option maxHeartbeats 8000000 in
set_option maxRecDepth 100000 in
theorem bignum_sub.calls (k:Nat) (A0:Option Addr) (c0:Nat) (l0:List Int) (A1:Option Addr) (c1:Nat) (l1:List Int) (r:List Int) (w:World) (hr0:Kd.C (Kd.int .u32) w A0 l0.length l0) (hc0:l0.length≤c0) (hr1:Kd.C (Kd.int .u32) w A1 l1.length l1) (hc1:l1.length≤c1) (h:bignum_sub.f k l0 l1=some r) :
    Calls Tryd.prog 75 #[.slice A0 l0.length c0,.slice A1 l1.length c1] w fun e w'=>∃ v0_:Value,e=.returned (v0_)∧Kd.R (Kd.int .u32) 96 w' w.heap.size (fun _=>True) v0_ r∧Below w.heap.size w w':=by
  have HR0:=Aside0.mk hr0
  have HC0:=Aside0.mk hc0
  clear hr0 hc0
  have HR1:=Aside0.mk hr1
  have HC1:=Aside0.mk hc1
  clear hr1 hc1
  have HB:=Aside0.mk (Below.refl w.heap.size w)
  have H:(if 0≤(l0.length:Int) then (if ((l0.length:Int):Int).toNat≤70368744177664 then (bignum_sub.l0 k l0 l1 (List.replicate ((l0.length:Int):Int).toNat 0) 0 0) else (none)) else (none))=some r:=h
  clear h
  by_cases c3:0≤(l0.length:Int)
  · rw [if_pos c3] at H
    have c3b0:=eq_true c3
    have c3b1:decide (0≤(l0.length:Int))=true:=decide_eq_true c3
    clear c3
    by_cases c4:((l0.length:Int):Int).toNat≤70368744177664
    · rw [if_pos c4] at H
      have c4b0:=eq_true c4
      have c4b1:decide (((l0.length:Int):Int).toNat≤70368744177664)=true:=decide_eq_true c4
      clear c4
      obtain ⟨y119,hy119⟩:∃ y_:List Int,y_=(List.replicate ((l0.length:Int):Int).toNat 0):=⟨_,rfl⟩
      replace H:(bignum_sub.l0 k l0 l1 y119 0 0)=some r:=by first|(rw [hy119];with_reducible exact H)|(have H2_:=(Option.bind_some _ _).symm.trans H;rw [hy119];with_reducible exact H2_)|(have H2_:=(Option.bind_some _ _).symm.trans H;with_reducible exact H2_)|with_reducible exact H|(rw [hy119];exact H)|exact H
      have Ny119:=Aside0.mk hy119
      clear hy119
      have H':=Aside0.mk H
      clear H
      go_enter Tryd.func75,Tryd.ntmps75
      go_wp2_with (first|((with_reducible refine gate_dst (N:=11) rfl ?_);refine Kd.R_make (Kd.int .u32) _ 96 rfl (N:=11) rfl 74 _ _ rfl (l0.length:Int) rfl rfl Tryd.underlying74 (.int .u32 0) 4 info96 rfl (by decide) (by omega) 0 (ok:=fun _=>True) (okp:=fun _=>True) rfl (fun _ hk=>hk) trivial (of_decide_eq_true (by first|(with_reducible assumption)|assumption)) (Nat.le_trans (Nat.mul_le_mul_right _ (of_decide_eq_true (by first|(with_reducible assumption)|assumption):(l0.length:Int).toNat≤70368744177664)) (by omega)) (Below.refl _ _) (Nat.le_refl _) ?_;intro v120 w5 ho6 hb hg_ hnew_;clear hg_ hnew_;(first|rw [← Ny119.out] at ho6|(simp only [Int.reduceToNat] at ho6;rw [← Ny119.out] at ho6));have n0_:=Aside0.mk (Kd.R_lower ho6 (below_size (by repeat (first|(with_reducible first|exact HB.out|apply below_alloc|apply pw_below_drewN|apply below_drew1)|exact HB.out))));have n1_:=Aside0.mk (below_step (by repeat (first|(with_reducible first|exact HB.out|apply below_alloc|apply pw_below_drewN|apply below_drew1)|exact HB.out)) hb);clear HB;have HO121:=n0_;have HB:=n1_;clear n0_ n1_;clear hb ho6))
      go_loopg [6,7] k (fun kq v6 v7 w'=>∃ (x5_1:List Int) (x6_1:Int) (x7_1:Int),v6=.int .u64 x6_1∧v7=.int .i64 x7_1∧Aside0 (bignum_sub.l0 kq l0 l1 x5_1 x6_1 x7_1=some r)∧Aside0 (kq≤k)∧Aside0 (Kd.R (Kd.int .u32) 96 w' w.heap.size (fun _=>True) v120 x5_1)∧Aside0 (Below w.heap.size w w'))
      case atStart=>exact ⟨(y119),(0),(0),(by first|rfl|(simp;done)|(simp [*];done)),(by first|rfl|(simp;done)|(simp [*];done)),H',⟨Nat.le_refl _⟩,⟨by (with_reducible repeat (first|apply Kd.R_alloc|apply Kd.R_drewN|apply Kd.R_drew));exact HO121.out⟩,⟨by repeat (first|(with_reducible first|exact HB.out|apply below_alloc|apply pw_below_drewN|apply below_drew1)|exact HB.out)⟩⟩
      case round =>
        clear H'
        try clear c1
        try clear p2
        try clear c3
        try clear c3b0
        try clear c3b1
        try clear c4
        try clear c4b0
        try clear c4b1
        obtain ⟨x5_1,x6_1,x7_1,rfl,rfl,HA,HK1,HO_5,HB⟩:=hrel
        cases gk with
        | zero=>exact absurd HA.out (by simp [bignum_sub.l0])
        | succ k1 =>
          have H:=HA.out
          clear HA
          simp only [bignum_sub.l0] at H
          by_cases c7:x7_1 < (l0.length:Int)
          · rw [if_pos c7] at H
            have c7b0:decide (x7_1 < (l0.length:Int))=true:=decide_eq_true c7
            clear c7
            by_cases c8:0≤x7_1
            · rw [if_pos c8] at H
              have c8b0:decide (0≤x7_1)=true:=decide_eq_true c8
              clear c8
              by_cases c9:x7_1 < (l1.length:Int)
              · rw [if_pos c9] at H
                have c9b0:decide (x7_1 < (l1.length:Int))=true:=decide_eq_true c9
                clear c9
                by_cases c10:x7_1 < (x5_1.length:Int)
                · rw [if_pos c10] at H
                  have c10b0:decide (x7_1 < (x5_1.length:Int))=true:=decide_eq_true c10
                  clear c10
                  obtain ⟨y124,hy124⟩:∃ y_:List Int,y_=(x5_1.set (x7_1:Int).toNat ((IntKind.u64.wrap ((IntKind.u64.wrap ((IntKind.u64.wrap (rd l0 x7_1)) - x6_1)) - (IntKind.u64.wrap (rd l1 x7_1)))) % 4294967296)):=⟨_,rfl⟩
                  replace H:(bignum_sub.l0 k1 l0 l1 y124 ((IntKind.u64.wrap ((IntKind.u64.wrap ((IntKind.u64.wrap (rd l0 x7_1)) - x6_1)) - (IntKind.u64.wrap (rd l1 x7_1)))) / 9223372036854775808) (wrap64 (x7_1 + 1)))=some r:=by first|(rw [hy124];with_reducible exact H)|(have H2_:=(Option.bind_some _ _).symm.trans H;rw [hy124];with_reducible exact H2_)|(have H2_:=(Option.bind_some _ _).symm.trans H;with_reducible exact H2_)|with_reducible exact H|(rw [hy124];exact H)|exact H
                  have Ny124:=Aside0.mk hy124
                  clear hy124
                  have H':=Aside0.mk H
                  clear H
                  have p122:0≤(x7_1:Int):=of_decide_eq_true (by first|(with_reducible assumption)|assumption)
                  have q122:x7_1 < (l0.length:Int):=of_decide_eq_true (by first|(with_reducible assumption)|assumption)
                  obtain ⟨ad122,e122,hx122_0⟩:=Kd.at_int HR0.out x7_1 p122 q122
                  cases e122
                  replace hx122_0:=(HB.out.cell (World.block_lt_of_cell? w _ hx122_0)).trans hx122_0
                  replace p122:=eq_true p122
                  replace q122:=eq_true q122
                  have p123:0≤(x7_1:Int):=of_decide_eq_true (by first|(with_reducible assumption)|assumption)
                  have q123:x7_1 < (l1.length:Int):=of_decide_eq_true (by first|(with_reducible assumption)|assumption)
                  obtain ⟨ad123,e123,hx123_0⟩:=Kd.at_int HR1.out x7_1 p123 q123
                  cases e123
                  replace hx123_0:=(HB.out.cell (World.block_lt_of_cell? w _ hx123_0)).trans hx123_0
                  replace p123:=eq_true p123
                  replace q123:=eq_true q123
                  have p11:0≤(x7_1:Int):=of_decide_eq_true (by first|(with_reducible assumption)|assumption)
                  have q11:(x7_1:Int) < ((x5_1.length:Int):Int):=of_decide_eq_true (by first|(with_reducible assumption)|assumption)
                  obtain ⟨go11,co11,eo11,gb11,gl11,cl11,HG11⟩:=Kd.R_form HO_5.out (by omega)
                  (first|cases eo11|(injection eo11 with ea_ en_ ec_;(first|subst ea_|(injection ea_ with ea_;subst ea_));subst ec_;clear en_))
                  have GB11:=Aside0.mk gb11
                  have GG11:=Aside0.mk HG11
                  clear gb11 gl11 HG11
                  obtain ⟨hx11_0,hf11_0⟩:=Kd.R_celln 0 HO_5.out (x7_1:Int) p11 q11
                  replace p11:=eq_true p11
                  replace q11:=eq_true q11
                  have HP12:=Kd.R_putg HO_5.out (x7_1:Int) ((IntKind.u64.wrap ((IntKind.u64.wrap ((IntKind.u64.wrap (rd l0 x7_1)) - x6_1)) - (IntKind.u64.wrap (rd l1 x7_1)))) % 4294967296)
                  go_wp2_with (first|((with_reducible refine gate_store (t:=96) (p:=40) rfl ?_);refine store_event (t:=96) (p:=40) (v:=?vo_w13) (w1:=(wr.setCell ⟨go11,(x7_1:Int).toNat,none⟩ (.int .u32 ((IntKind.u64.wrap ((IntKind.u64.wrap ((IntKind.u64.wrap (rd l0 x7_1)) - x6_1)) - (IntKind.u64.wrap (rd l1 x7_1)))) % 4294967296)))) ?hg ?ho ?hn ?hr ?_;(case ho=>rfl);(case hg=>rfl);(case hn=>rfl);(case hr=>first|(go_simp;done)|(go_simp;rfl));intro w13 hw;have hg:wr.grownBy w13 (some go11):=(by rw [hw];exact HP12.2);have hp_:Kd.R (Kd.int .u32) 96 w13 w.heap.size (fun _=>True) (.slice (some ⟨go11,0,none⟩) x5_1.length co11) y124:=(by rw [hw,Ny124.out];exact HP12.1);clear HP12;have n0_:=Aside0.mk (hp_);have n1_:=Aside0.mk ((by rw [hw];exact below_set (HB.out) GB11.out:Below w.heap.size w w13));clear HO_5;clear HB;have HO_5:=n0_;have HB:=n1_;clear n0_ n1_;clear hg hw hp_))
                  go_roundg k1
                  case measure=>have:=HK1.out;omega
                  case rel=>exact ⟨(y124),((IntKind.u64.wrap ((IntKind.u64.wrap ((IntKind.u64.wrap (rd l0 x7_1)) - x6_1)) - (IntKind.u64.wrap (rd l1 x7_1)))) / 9223372036854775808),(wrap64 (x7_1 + 1)),(by first|rfl|(simp;done)|(simp [*];done)),(by first|rfl|(simp;done)|(simp [*];done)),H',⟨by have:=HK1.out;omega⟩,⟨by (with_reducible repeat (first|apply Kd.R_alloc|apply Kd.R_drewN|apply Kd.R_drew));exact HO_5.out⟩,⟨by repeat (first|(with_reducible first|exact HB.out|apply below_alloc|apply pw_below_drewN|apply below_drew1)|exact HB.out)⟩⟩
                · rw [if_neg c10] at H
                  exact absurd H (by simp)
              · rw [if_neg c9] at H
                have c9b0:decide (x7_1 < (l1.length:Int))=false:=decide_eq_false c9
                clear c9
                by_cases c14:x7_1 < (x5_1.length:Int)
                · rw [if_pos c14] at H
                  have c14b0:decide (x7_1 < (x5_1.length:Int))=true:=decide_eq_true c14
                  clear c14
                  obtain ⟨y125,hy125⟩:∃ y_:List Int,y_=(x5_1.set (x7_1:Int).toNat ((IntKind.u64.wrap ((IntKind.u64.wrap (rd l0 x7_1)) - x6_1)) % 4294967296)):=⟨_,rfl⟩
                  replace H:(bignum_sub.l0 k1 l0 l1 y125 ((IntKind.u64.wrap ((IntKind.u64.wrap (rd l0 x7_1)) - x6_1)) / 9223372036854775808) (wrap64 (x7_1 + 1)))=some r:=by first|(rw [hy125];with_reducible exact H)|(have H2_:=(Option.bind_some _ _).symm.trans H;rw [hy125];with_reducible exact H2_)|(have H2_:=(Option.bind_some _ _).symm.trans H;with_reducible exact H2_)|with_reducible exact H|(rw [hy125];exact H)|exact H
                  have Ny125:=Aside0.mk hy125
                  clear hy125
                  have H':=Aside0.mk H
                  clear H
                  have p122:0≤(x7_1:Int):=of_decide_eq_true (by first|(with_reducible assumption)|assumption)
                  have q122:x7_1 < (l0.length:Int):=of_decide_eq_true (by first|(with_reducible assumption)|assumption)
                  obtain ⟨ad122,e122,hx122_0⟩:=Kd.at_int HR0.out x7_1 p122 q122
                  cases e122
                  replace hx122_0:=(HB.out.cell (World.block_lt_of_cell? w _ hx122_0)).trans hx122_0
                  replace p122:=eq_true p122
                  replace q122:=eq_true q122
                  have p15:0≤(x7_1:Int):=of_decide_eq_true (by first|(with_reducible assumption)|assumption)
                  have q15:(x7_1:Int) < ((x5_1.length:Int):Int):=of_decide_eq_true (by first|(with_reducible assumption)|assumption)
                  obtain ⟨go15,co15,eo15,gb15,gl15,cl15,HG15⟩:=Kd.R_form HO_5.out (by omega)
                  (first|cases eo15|(injection eo15 with ea_ en_ ec_;(first|subst ea_|(injection ea_ with ea_;subst ea_));subst ec_;clear en_))
                  have GB15:=Aside0.mk gb15
                  have GG15:=Aside0.mk HG15
                  clear gb15 gl15 HG15
                  obtain ⟨hx15_0,hf15_0⟩:=Kd.R_celln 0 HO_5.out (x7_1:Int) p15 q15
                  replace p15:=eq_true p15
                  replace q15:=eq_true q15
                  have HP16:=Kd.R_putg HO_5.out (x7_1:Int) ((IntKind.u64.wrap ((IntKind.u64.wrap (rd l0 x7_1)) - x6_1)) % 4294967296)
                  go_wp2_with (first|((with_reducible refine gate_store (t:=96) (p:=40) rfl ?_);refine store_event (t:=96) (p:=40) (v:=?vo_w17) (w1:=(wr.setCell ⟨go15,(x7_1:Int).toNat,none⟩ (.int .u32 ((IntKind.u64.wrap ((IntKind.u64.wrap (rd l0 x7_1)) - x6_1)) % 4294967296)))) ?hg ?ho ?hn ?hr ?_;(case ho=>rfl);(case hg=>rfl);(case hn=>rfl);(case hr=>first|(go_simp;done)|(go_simp;rfl));intro w17 hw;have hg:wr.grownBy w17 (some go15):=(by rw [hw];exact HP16.2);have hp_:Kd.R (Kd.int .u32) 96 w17 w.heap.size (fun _=>True) (.slice (some ⟨go15,0,none⟩) x5_1.length co15) y125:=(by rw [hw,Ny125.out];exact HP16.1);clear HP16;have n0_:=Aside0.mk (hp_);have n1_:=Aside0.mk ((by rw [hw];exact below_set (HB.out) GB15.out:Below w.heap.size w w17));clear HO_5;clear HB;have HO_5:=n0_;have HB:=n1_;clear n0_ n1_;clear hg hw hp_))
                  go_roundg k1
                  case measure=>have:=HK1.out;omega
                  case rel=>exact ⟨(y125),((IntKind.u64.wrap ((IntKind.u64.wrap (rd l0 x7_1)) - x6_1)) / 9223372036854775808),(wrap64 (x7_1 + 1)),(by first|rfl|(simp;done)|(simp [*];done)),(by first|rfl|(simp;done)|(simp [*];done)),H',⟨by have:=HK1.out;omega⟩,⟨by (with_reducible repeat (first|apply Kd.R_alloc|apply Kd.R_drewN|apply Kd.R_drew));exact HO_5.out⟩,⟨by repeat (first|(with_reducible first|exact HB.out|apply below_alloc|apply pw_below_drewN|apply below_drew1)|exact HB.out)⟩⟩
                · rw [if_neg c14] at H
                  exact absurd H (by simp)
            · rw [if_neg c8] at H
              exact absurd H (by simp)
          · rw [if_neg c7] at H
            have c7b0:decide (x7_1 < (l0.length:Int))=false:=decide_eq_false c7
            clear c7
            replace H:=Option.bind_eq_some_iff.mp H
            obtain ⟨t126,A180,H⟩:=H
            replace H:(some t126)=some r:=H
            have A18:=Aside0.mk A180
            clear A180
            obtain rfl:=Option.some.inj H
            obtain ⟨Ao19,co19,eo19⟩:=Kd.R_slice HO_5.out
            subst eo19
            go_wp2_with (first|((with_reducible refine gate_callee (f:=91) rfl ?_);refine goesL_ (some 44) rfl rfl Tryd.func91 (by kernel_rfl) rfl #[.slice Ao19 x5_1.length co19] rfl (by (try simp only [List.map_toArray,List.map_cons,List.map_nil]);first|done|rfl|(simp only [List.length_drop,List.length_take];rfl)) ?_;(with_reducible refine (bignum_trim.calls k1 (fun k_=>some k_=(.slice Ao19 x5_1.length co19:Value).ownBlock) (.slice Ao19 x5_1.length co19) x5_1 t126 w _ ?side1 ?side2 A18.out).mono ?_);(case side1=>repeat (first|(with_reducible first|exact HB.out|apply below_alloc|apply pw_below_drewN|apply below_drew1)|exact HB.out));(case side2=>exact Kd.R_tight rfl HO_5.out);rintro e w20 ⟨v127,rfl,ho0,hb,hkp⟩;refine ⟨_,rfl,?_⟩;have n0_:=Aside0.mk (Kd.R_mono (ok':=fun k_=>True) ho0 (fun k_ hk_=>trivial));have n1_:=Aside0.mk (hb);clear HB;clear HO_5;have HO128:=n0_;have HB:=n1_;clear n0_ n1_;(try clear hb);(try clear hkp);(try clear ho0)))
            go_ret
            exact ⟨_,by first|rfl|(simp [errW_none,errW_some] <;> rfl)|(simp [*,errW_none,errW_some] <;> rfl),by (with_reducible repeat (first|apply Kd.R_alloc|apply Kd.R_drewN|apply Kd.R_drew));exact HO128.out,by repeat (first|(with_reducible first|exact HB.out|apply below_alloc|apply pw_below_drewN|apply below_drew1)|exact HB.out)⟩
    · rw [if_neg c4] at H
      exact absurd H (by simp)
  · rw [if_neg c3] at H
    exact absurd H (by simp)
end Go.Proofs.YtalhpbilkhdfhaaDoor.XBn
