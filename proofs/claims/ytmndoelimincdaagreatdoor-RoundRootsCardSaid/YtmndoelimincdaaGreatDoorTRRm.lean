import Derived.Test.YtmndoelimincdaaGreatDoorProg
import Derived.Below
import Derived.Deep.Draws
import Derived.Deep.AppendLies
import Derived.Maps.AppendAt
import Derived.OwnWalk
import Derived.Laws.BytesArg
import Derived.Laws.MakeOwn
import Derived.Laws.OwnMore
import Derived.Deep.OwnRows
import Derived.Tactics
import Derived.Lib.ConvBytes
import Derived.Laws.Slices
import Derived.WalkKit
import Derived.KernelRfl
import Derived.RowKit3
import Derived.Deep.LoopGhost
import Derived.Deep.QuietTactic
import Derived.BigQuiet
import Derived.WideLaws
import Derived.Deep.DeepCutAuto
import Derived.Deep.CutBlock
import Derived.Deep.RegionHeld3
import Derived.Laws.Rows
import Derived.Lib.AppendStr
import Derived.ArgAppend
import Derived.Laws.IdiomCopy
import Derived.OrdersHeld
import Derived.Laws.BitsLemmas
import Derived.RowKit
import Derived.Test.YtmndoelimincdaaGreatDoorTRRb
import Derived.Test.YtmndoelimincdaaGreatDoorTRRc
import Derived.Laws.StructEq
namespace Go.Proofs.YtmndoelimincdaaGreatDoor.XRf
open Go.RowKit Go.Proofs.YtmndoelimincdaaGreatDoorW.PrintWords Go.Proofs.YtmndoelimincdaaGreatDoorW.PrintLast Go.Proofs.YtmndoelimincdaaGreatDoorW.PrintMore
attribute [local go_sem] max2_int min2_int max_two min_two max_three min_three max_four min_four
set_option linter.unusedVariables false
set_option linter.unusedSimpArgs false
def errW:Option Int→Value
  | none=>.nilIface
  | some c=>.iface 0 (.int .i64 c)
theorem errW_none:errW none=.nilIface:=rfl
theorem errW_some (c:Int):errW (some c)=.iface 0 (.int .i64 c):=rfl
theorem info38:(Tryz.prog.info? 38).map (fun i=>(i.zero,i.size,i.bytes))=some (some (.int .u64 0),1,8):=by kernel_rfl
end Go.Proofs.YtmndoelimincdaaGreatDoor.XRf
namespace Go.Proofs.YtmndoelimincdaaGreatDoor.XRf
open Go.RowKit Go.Proofs.YtmndoelimincdaaGreatDoorW.PrintWords Go.Proofs.YtmndoelimincdaaGreatDoorW.PrintLast Go.Proofs.YtmndoelimincdaaGreatDoorW.PrintMore
attribute [local go_sem] max2_int min2_int max_two min_two max_three min_three max_four min_four
set_option linter.unusedVariables false
set_option linter.unusedSimpArgs false
theorem frz_at {w w':World} {m:Nat} {a:Addr} {b:Bool} (hq:w.drewN m=w') (h:w.frozen? a=b):w'.frozen? a=b:=by subst hq;exact h
def girderref00_NatTrim.l0:Nat→List Int→Int→Option (List Int)
  | 0,_,_=>none
  | k + 1,x0,x3=>if x3 > 0 then (if 0≤(wrap64 (x3 - 1)) then (if (wrap64 (x3 - 1)) < (x0.length:Int) then (if (rd x0 (wrap64 (x3 - 1)))=0 then (girderref00_NatTrim.l0 k x0 (wrap64 (x3 - 1))) else (if 0≤x3 then (if x3≤(x0.length:Int) then (if ([]:List Int).length + (x0.take (x3:Int).toNat).length < 17592186044416 then (some (([]:List Int) ++ (x0.take (x3:Int).toNat))) else (none)) else (none)) else (none))) else (none)) else (none)) else (if 0≤x3 then (if x3≤(x0.length:Int) then (if ([]:List Int).length + (x0.take (x3:Int).toNat).length < 17592186044416 then (some (([]:List Int) ++ (x0.take (x3:Int).toNat))) else (none)) else (none)) else (none))
def girderref00_NatTrim.f (k:Nat) (l0:List Int):Option (List Int):=girderref00_NatTrim.l0 k l0 (l0.length:Int)
theorem girderref00_NatTrim.mono_l:∀ k,(∀ y0 y1,LeO (girderref00_NatTrim.l0 k y0 y1) (girderref00_NatTrim.l0 (k + 1) y0 y1))
  | 0=>fun _ _ r h=>by simp [girderref00_NatTrim.l0] at h
  | k + 1=>by
    have ih0:=girderref00_NatTrim.mono_l k
    · intro y0 y1
      unfold girderref00_NatTrim.l0
      repeat' first
      | (with_reducible exact ih0 _ _)
      | (with_reducible exact LeO.refl _)
      | (with_reducible exact LeO.none _)
      | (with_reducible refine LeO.ite ?_ ?_)
      | (with_reducible refine LeO.bind ?_ (fun _=>?_))
      | exact ih0 _ _
      | exact LeO.none _
      | refine LeO.ite ?_ ?_
      | refine LeO.bind ?_ (fun _=>?_)
theorem girderref00_NatTrim.mono:∀ a0 k,LeO (girderref00_NatTrim.f k a0) (girderref00_NatTrim.f (k + 1) a0):=by
  intro a0 k
  have ih0:=girderref00_NatTrim.mono_l k
  unfold girderref00_NatTrim.f
  repeat' first
      | (with_reducible exact ih0 _ _)
      | (with_reducible exact LeO.refl _)
      | (with_reducible exact LeO.none _)
      | (with_reducible refine LeO.ite ?_ ?_)
      | (with_reducible refine LeO.bind ?_ (fun _=>?_))
      | exact ih0 _ _
      | exact LeO.none _
      | refine LeO.ite ?_ ?_
      | refine LeO.bind ?_ (fun _=>?_)
set_option maxHeartbeats 8000000 in
set_option maxRecDepth 100000 in
theorem girderref00_NatTrim.calls (k:Nat) (A0:Option Addr) (c0:Nat) (l0:List Int) (r:List Int) (w:World) (hr0:Kd.C (Kd.int .u64) w A0 l0.length l0) (hc0:l0.length≤c0) (h:girderref00_NatTrim.f k l0=some r) :
    Calls Tryz.prog 129 #[.slice A0 l0.length c0] w fun e w'=>∃ v0_:Value,e=.returned (v0_)∧Kd.R (Kd.int .u64) 38 w' w.heap.size (fun _=>True) v0_ r∧Below w.heap.size w w':=by
  have HR0:=Aside0.mk hr0
  have HC0:=Aside0.mk hc0
  clear hr0 hc0
  have HB:=Aside0.mk (Below.refl w.heap.size w)
  have H:(girderref00_NatTrim.l0 k l0 (l0.length:Int))=some r:=h
  clear h
  have H':=Aside0.mk H
  clear H
  go_enter Tryz.func129,Tryz.ntmps129
  go_wp2
  go_loopg [3] k (fun kq v3 w'=>∃ (x3_1:Int),v3=.int .i64 x3_1∧Aside0 (girderref00_NatTrim.l0 kq l0 x3_1=some r)∧Aside0 (kq≤k)∧Aside0 (Below w.heap.size w w'))
  case atStart=>exact ⟨((l0.length:Int)),(by first|rfl|(simp;done)|(simp [*];done)),H',⟨Nat.le_refl _⟩,⟨by repeat (first|(with_reducible first|exact HB.out|apply below_alloc|apply pw_below_drewN|apply below_drew1)|exact HB.out)⟩⟩
  case round =>
    clear H'
    try clear c1
    obtain ⟨x3_1,rfl,HA,HK1,HB⟩:=hrel
    cases gk with
    | zero=>exact absurd HA.out (by simp [girderref00_NatTrim.l0])
    | succ k1 =>
      have H:=HA.out
      clear HA
      simp only [girderref00_NatTrim.l0] at H
      by_cases c2:x3_1 > 0
      · rw [if_pos c2] at H
        have c2b0:decide (0 < x3_1)=true:=decide_eq_true c2
        clear c2
        obtain ⟨ji3,hji3⟩:∃ j_:Int,(wrap64 (x3_1 - 1))=j_:=⟨_,rfl⟩
        replace H:(if 0≤(ji3) then (if (ji3) < (l0.length:Int) then (if (rd l0 (ji3))=0 then (girderref00_NatTrim.l0 k1 l0 ji3) else (if 0≤x3_1 then (if x3_1≤(l0.length:Int) then (if ([]:List Int).length + (l0.take (x3_1:Int).toNat).length < 17592186044416 then (some (([]:List Int) ++ (l0.take (x3_1:Int).toNat))) else (none)) else (none)) else (none))) else (none)) else (none))=some r:=by first|(rw [hji3] at H;exact H)|(simp only [hji3] at H ⊢;exact H)
        have hji3w:(IntKind.i64.wrap (x3_1 - 1))=ji3:=(i64_w _).trans hji3
        by_cases c4:0≤(ji3)
        · rw [if_pos c4] at H
          have c4b0:decide (0≤(ji3))=true:=decide_eq_true c4
          clear c4
          by_cases c5:(ji3) < (l0.length:Int)
          · rw [if_pos c5] at H
            have c5b0:decide ((ji3) < (l0.length:Int))=true:=decide_eq_true c5
            clear c5
            by_cases c6:(rd l0 (ji3))=0
            · rw [if_pos c6] at H
              have c6b0:((rd l0 (ji3)) == 0)=true:=beq_iff_eq.mpr c6
              have c6b1:((rd l0 (ji3)) != 0)=false:=bne_eq_false_iff_eq.mpr c6
              clear c6
              have H':=Aside0.mk H
              clear H
              have p101:0≤((ji3):Int):=of_decide_eq_true (by first|(with_reducible assumption)|assumption)
              have q101:(ji3) < (l0.length:Int):=of_decide_eq_true (by first|(with_reducible assumption)|assumption)
              obtain ⟨ad101,e101,hx101_0⟩:=Kd.at_int HR0.out (ji3) p101 q101
              cases e101
              replace hx101_0:=(HB.out.cell (World.block_lt_of_cell? w _ hx101_0)).trans hx101_0
              replace p101:=eq_true p101
              replace q101:=eq_true q101
              go_wp2
              go_roundg k1
              case measure=>have:=HK1.out;omega
              case rel=>exact ⟨(ji3),(by first|rfl|(simp;done)|(simp only [← hji3] <;> (first|rfl|simp))|(simp [*];done)),H',⟨by have:=HK1.out;omega⟩,⟨by repeat (first|(with_reducible first|exact HB.out|apply below_alloc|apply pw_below_drewN|apply below_drew1)|exact HB.out)⟩⟩
            · rw [if_neg c6] at H
              have c6b0:((rd l0 (ji3)) == 0)=false:=beq_eq_false_iff_ne.mpr c6
              have c6b1:((rd l0 (ji3)) != 0)=true:=bne_iff_ne.mpr c6
              by_cases c7:0≤x3_1
              · rw [if_pos c7] at H
                have c7b0:=eq_true c7
                have c7b1:decide (0≤x3_1)=true:=decide_eq_true c7
                clear c7
                by_cases c8:x3_1≤(l0.length:Int)
                · rw [if_pos c8] at H
                  have c8b0:=eq_true c8
                  have c8b1:decide (x3_1≤(l0.length:Int))=true:=decide_eq_true c8
                  clear c8
                  by_cases c9:([]:List Int).length + (l0.take (x3_1:Int).toNat).length < 17592186044416
                  · rw [if_pos c9] at H
                    have LMc9:=Aside0.mk c9
                    clear c9
                    obtain ⟨y103,hy103⟩:∃ y_:List Int,y_=(([]:List Int) ++ (l0.take (x3_1:Int).toNat)):=⟨_,rfl⟩
                    replace H:(some y103)=some r:=by first|(rw [hy103];with_reducible exact H)|(have H2_:=(Option.bind_some _ _).symm.trans H;rw [hy103];with_reducible exact H2_)|(have H2_:=(Option.bind_some _ _).symm.trans H;with_reducible exact H2_)|with_reducible exact H|(rw [hy103];exact H)|exact H
                    have Ny103:=Aside0.mk hy103
                    clear hy103
                    obtain rfl:=Option.some.inj H
                    have p101:0≤((ji3):Int):=of_decide_eq_true (by first|(with_reducible assumption)|assumption)
                    have q101:(ji3) < (l0.length:Int):=of_decide_eq_true (by first|(with_reducible assumption)|assumption)
                    obtain ⟨ad101,e101,hx101_0⟩:=Kd.at_int HR0.out (ji3) p101 q101
                    cases e101
                    replace hx101_0:=(HB.out.cell (World.block_lt_of_cell? w _ hx101_0)).trans hx101_0
                    replace p101:=eq_true p101
                    replace q101:=eq_true q101
                    obtain ⟨i010,hi010,_,hsz10,_⟩:=info_parts info38
                    obtain ⟨hcut10,hA10,hC10⟩:=print_take_of (P:=Tryz.prog) (Value.int .u64) 0 46 38 .i64 Tryz.underlying46 hi010 hsz10 (some ad101) c0 l0 x3_1 (of_decide_eq_true (by first|(with_reducible assumption)|assumption)) (of_decide_eq_true (by first|(with_reducible assumption)|assumption)) HC0.out
                    have HR102:=Aside0.mk (Kd.C_of_reads (h1:=fun _=>rfl) (hA10 _ (Kd.reads_of_C HR0.out)))
                    have HC102:=Aside0.mk hC10
                    clear hA10 hC10 hi010 hsz10
                    go_wp2_with (first|((with_reducible refine gate_builtin (b:=.append) (xs:=#[.tmp 19,.tmp 22]) rfl ?_);at_builtin;refine Kd.R_append_rows (Kd.int .u64) (w0:=w) w.heap.size rfl (.tmp 19) (.tmp 22) 46 38 (.int .u64 0) 8 rfl Tryz.underlying46 info38 rfl (by decide) (by omega) (.slice none 0 0) ([]:List Int) (l0.take (x3_1:Int).toNat) _ _ _ (fun _=>True) (fun _=>False) rfl rfl ?aO ?aR (fun _ _ h=>h) (fun _ h=>h.elim) ?aF ?aB ?aS ?aL ?_;(case aR=>first|(have hAR_:=(Kd.C_below HR102.out HB.out);rw [show (l0.take (x3_1:Int).toNat).length=x3_1.toNat from (by rw [List.length_take];have h_:(x3_1:Int)≤(l0.length:Int):=of_decide_eq_true (by first|(with_reducible assumption)|assumption);omega)] at hAR_;exact hAR_)|(rw [← show (l0.take (x3_1:Int).toNat).length=x3_1.toNat from (by rw [List.length_take];have h_:(x3_1:Int)≤(l0.length:Int):=of_decide_eq_true (by first|(with_reducible assumption)|assumption);omega)];repeat (first|exact (Kd.C_below HR102.out HB.out)|(with_reducible refine Kd.C_alloc ?_ _)|(with_reducible refine Kd.C_drewN ?_ _)|(with_reducible refine Kd.C_drew ?_)))|(repeat (first|exact (Kd.C_below HR102.out HB.out)|(with_reducible refine Kd.C_alloc ?_ _)|(with_reducible refine Kd.C_drewN ?_ _)|(with_reducible refine Kd.C_drew ?_))));(case aB=>exact (by repeat (first|(with_reducible first|exact HB.out|apply below_alloc|apply pw_below_drewN|apply below_drew1)|exact HB.out)));(case aF=>exact (fun _ _=>trivial));(case aO=>exact ((Kd.R_nil _ _ _ _ (fun _=>True))));(case aS=>exact (below_size (by repeat (first|(with_reducible first|exact HB.out|apply below_alloc|apply pw_below_drewN|apply below_drew1)|exact HB.out))));(case aL=>have:=LMc9.out;have hlx_:=(show (l0.take (x3_1:Int).toNat).length=x3_1.toNat from (by rw [List.length_take];have h_:(x3_1:Int)≤(l0.length:Int):=of_decide_eq_true (by first|(with_reducible assumption)|assumption);omega));omega);intro v104 w11 ho hb hg hat;rw [← Ny103.out] at ho;have n0_:=Aside0.mk (hb);have n1_:=Aside0.mk (ho);clear HB;have HB:=n0_;have HO105:=n1_;clear n0_ n1_;clear ho hb hg hat))
                    go_ret
                    exact ⟨_,by first|rfl|(simp [errW_none,errW_some] <;> rfl)|(simp only [← hji3];first|rfl|(simp [errW_none,errW_some] <;> rfl))|(simp [*,errW_none,errW_some] <;> rfl),by (with_reducible repeat (first|apply Kd.R_alloc|apply Kd.R_drewN|apply Kd.R_drew));exact HO105.out,by repeat (first|(with_reducible first|exact HB.out|apply below_alloc|apply pw_below_drewN|apply below_drew1)|exact HB.out)⟩
                  · rw [if_neg c9] at H
                    exact absurd H (by simp)
                · rw [if_neg c8] at H
                  exact absurd H (by simp)
              · rw [if_neg c7] at H
                exact absurd H (by simp)
          · rw [if_neg c5] at H
            exact absurd H (by simp)
        · rw [if_neg c4] at H
          exact absurd H (by simp)
      · rw [if_neg c2] at H
        have c2b0:decide (0 < x3_1)=false:=decide_eq_false c2
        clear c2
        by_cases c12:0≤x3_1
        · rw [if_pos c12] at H
          have c12b0:=eq_true c12
          have c12b1:decide (0≤x3_1)=true:=decide_eq_true c12
          clear c12
          by_cases c13:x3_1≤(l0.length:Int)
          · rw [if_pos c13] at H
            have c13b0:=eq_true c13
            have c13b1:decide (x3_1≤(l0.length:Int))=true:=decide_eq_true c13
            clear c13
            by_cases c14:([]:List Int).length + (l0.take (x3_1:Int).toNat).length < 17592186044416
            · rw [if_pos c14] at H
              have LMc14:=Aside0.mk c14
              clear c14
              obtain ⟨y107,hy107⟩:∃ y_:List Int,y_=(([]:List Int) ++ (l0.take (x3_1:Int).toNat)):=⟨_,rfl⟩
              replace H:(some y107)=some r:=by first|(rw [hy107];with_reducible exact H)|(have H2_:=(Option.bind_some _ _).symm.trans H;rw [hy107];with_reducible exact H2_)|(have H2_:=(Option.bind_some _ _).symm.trans H;with_reducible exact H2_)|with_reducible exact H|(rw [hy107];exact H)|exact H
              have Ny107:=Aside0.mk hy107
              clear hy107
              obtain rfl:=Option.some.inj H
              obtain ⟨i015,hi015,_,hsz15,_⟩:=info_parts info38
              obtain ⟨hcut15,hA15,hC15⟩:=print_take_of (P:=Tryz.prog) (Value.int .u64) 0 46 38 .i64 Tryz.underlying46 hi015 hsz15 A0 c0 l0 x3_1 (of_decide_eq_true (by first|(with_reducible assumption)|assumption)) (of_decide_eq_true (by first|(with_reducible assumption)|assumption)) HC0.out
              have HR106:=Aside0.mk (Kd.C_of_reads (h1:=fun _=>rfl) (hA15 _ (Kd.reads_of_C HR0.out)))
              have HC106:=Aside0.mk hC15
              clear hA15 hC15 hi015 hsz15
              go_wp2_with (first|((with_reducible refine gate_builtin (b:=.append) (xs:=#[.tmp 19,.tmp 22]) rfl ?_);at_builtin;refine Kd.R_append_rows (Kd.int .u64) (w0:=w) w.heap.size rfl (.tmp 19) (.tmp 22) 46 38 (.int .u64 0) 8 rfl Tryz.underlying46 info38 rfl (by decide) (by omega) (.slice none 0 0) ([]:List Int) (l0.take (x3_1:Int).toNat) _ _ _ (fun _=>True) (fun _=>False) rfl rfl ?aO ?aR (fun _ _ h=>h) (fun _ h=>h.elim) ?aF ?aB ?aS ?aL ?_;(case aR=>first|(have hAR_:=(Kd.C_below HR106.out HB.out);rw [show (l0.take (x3_1:Int).toNat).length=x3_1.toNat from (by rw [List.length_take];have h_:(x3_1:Int)≤(l0.length:Int):=of_decide_eq_true (by first|(with_reducible assumption)|assumption);omega)] at hAR_;exact hAR_)|(rw [← show (l0.take (x3_1:Int).toNat).length=x3_1.toNat from (by rw [List.length_take];have h_:(x3_1:Int)≤(l0.length:Int):=of_decide_eq_true (by first|(with_reducible assumption)|assumption);omega)];repeat (first|exact (Kd.C_below HR106.out HB.out)|(with_reducible refine Kd.C_alloc ?_ _)|(with_reducible refine Kd.C_drewN ?_ _)|(with_reducible refine Kd.C_drew ?_)))|(repeat (first|exact (Kd.C_below HR106.out HB.out)|(with_reducible refine Kd.C_alloc ?_ _)|(with_reducible refine Kd.C_drewN ?_ _)|(with_reducible refine Kd.C_drew ?_))));(case aB=>exact (by repeat (first|(with_reducible first|exact HB.out|apply below_alloc|apply pw_below_drewN|apply below_drew1)|exact HB.out)));(case aF=>exact (fun _ _=>trivial));(case aO=>exact ((Kd.R_nil _ _ _ _ (fun _=>True))));(case aS=>exact (below_size (by repeat (first|(with_reducible first|exact HB.out|apply below_alloc|apply pw_below_drewN|apply below_drew1)|exact HB.out))));(case aL=>have:=LMc14.out;have hlx_:=(show (l0.take (x3_1:Int).toNat).length=x3_1.toNat from (by rw [List.length_take];have h_:(x3_1:Int)≤(l0.length:Int):=of_decide_eq_true (by first|(with_reducible assumption)|assumption);omega));omega);intro v108 w16 ho hb hg hat;rw [← Ny107.out] at ho;have n0_:=Aside0.mk (hb);have n1_:=Aside0.mk (ho);clear HB;have HB:=n0_;have HO109:=n1_;clear n0_ n1_;clear ho hb hg hat))
              go_ret
              exact ⟨_,by first|rfl|(simp [errW_none,errW_some] <;> rfl)|(simp [*,errW_none,errW_some] <;> rfl),by (with_reducible repeat (first|apply Kd.R_alloc|apply Kd.R_drewN|apply Kd.R_drew));exact HO109.out,by repeat (first|(with_reducible first|exact HB.out|apply below_alloc|apply pw_below_drewN|apply below_drew1)|exact HB.out)⟩
            · rw [if_neg c14] at H
              exact absurd H (by simp)
          · rw [if_neg c13] at H
            exact absurd H (by simp)
        · rw [if_neg c12] at H
          exact absurd H (by simp)
def girderref00_limbs.l0:Nat→List Int→List Int→Int→Option (List Int)
  | 0,_,_,_=>none
  | k + 1,x0,x3,x4=>if x4 < (x0.length:Int) then (if 0≤x4 then (if (wrap64 (x4 + 1)) < (x0.length:Int) then (if 0≤(wrap64 (x4 + 1)) then (if x3.length < 17592186044416 then (girderref00_limbs.l0 k x0 (x3 ++ [IntKind.u64.wrap ((rd x0 x4) + (IntKind.u64.wrap (4294967296 * (rd x0 (wrap64 (x4 + 1))))))]) (wrap64 (x4 + 2))) else (none)) else (none)) else (if x3.length < 17592186044416 then (girderref00_limbs.l0 k x0 (x3 ++ [rd x0 x4]) (wrap64 (x4 + 2))) else (none))) else (none)) else ((girderref00_NatTrim.f k x3).bind fun t118=>(some t118))
def girderref00_limbs.f (k:Nat) (l0:List Int):Option (List Int):=girderref00_limbs.l0 k l0 ([]:List Int) 0
theorem girderref00_limbs.mono_l:∀ k,(∀ y0 y1 y2,LeO (girderref00_limbs.l0 k y0 y1 y2) (girderref00_limbs.l0 (k + 1) y0 y1 y2))
  | 0=>fun _ _ _ r h=>by simp [girderref00_limbs.l0] at h
  | k + 1=>by
    have ih0:=girderref00_limbs.mono_l k
    · intro y0 y1 y2
      unfold girderref00_limbs.l0
      repeat' first
      | (with_reducible exact ih0 _ _ _)
      | (with_reducible exact girderref00_NatTrim.mono _ _)
      | (with_reducible exact LeO.refl _)
      | (with_reducible exact LeO.none _)
      | (with_reducible refine LeO.ite ?_ ?_)
      | (with_reducible refine LeO.bind ?_ (fun _=>?_))
      | exact ih0 _ _ _
      | exact girderref00_NatTrim.mono _ _
      | exact LeO.none _
      | refine LeO.ite ?_ ?_
      | refine LeO.bind ?_ (fun _=>?_)
theorem girderref00_limbs.mono:∀ a0 k,LeO (girderref00_limbs.f k a0) (girderref00_limbs.f (k + 1) a0):=by
  intro a0 k
  have ih0:=girderref00_limbs.mono_l k
  unfold girderref00_limbs.f
  repeat' first
      | (with_reducible exact ih0 _ _ _)
      | (with_reducible exact girderref00_NatTrim.mono _ _)
      | (with_reducible exact LeO.refl _)
      | (with_reducible exact LeO.none _)
      | (with_reducible refine LeO.ite ?_ ?_)
      | (with_reducible refine LeO.bind ?_ (fun _=>?_))
      | exact ih0 _ _ _
      | exact girderref00_NatTrim.mono _ _
      | exact LeO.none _
      | refine LeO.ite ?_ ?_
      | refine LeO.bind ?_ (fun _=>?_)
set_option maxHeartbeats 8000000 in
set_option maxRecDepth 100000 in
theorem girderref00_limbs.calls (k:Nat) (A0:Option Addr) (c0:Nat) (l0:List Int) (r:List Int) (w:World) (hr0:Kd.C (Kd.int .u64) w A0 l0.length l0) (hc0:l0.length≤c0) (h:girderref00_limbs.f k l0=some r) :
    Calls Tryz.prog 106 #[.slice A0 l0.length c0] w fun e w'=>∃ v0_:Value,e=.returned (v0_)∧Kd.R (Kd.int .u64) 38 w' w.heap.size (fun _=>True) v0_ r∧Below w.heap.size w w':=by
  have HR0:=Aside0.mk hr0
  have HC0:=Aside0.mk hc0
  clear hr0 hc0
  have HB:=Aside0.mk (Below.refl w.heap.size w)
  have H:(girderref00_limbs.l0 k l0 ([]:List Int) 0)=some r:=h
  clear h
  have H':=Aside0.mk H
  clear H
  go_enter Tryz.func106,Tryz.ntmps106
  go_wp2
  go_loopg [3,4] k (fun kq v3 v4 w'=>∃ (x3_1:List Int) (x4_1:Int),v4=.int .i64 x4_1∧Aside0 (girderref00_limbs.l0 kq l0 x3_1 x4_1=some r)∧Aside0 (kq≤k)∧Aside0 (Kd.R (Kd.int .u64) 38 w' w.heap.size (fun _=>True) v3 x3_1)∧Aside0 (Below w.heap.size w w'))
  case atStart=>exact ⟨(([]:List Int)),(0),(by first|rfl|(simp;done)|(simp [*];done)),H',⟨Nat.le_refl _⟩,⟨by first|exact Kd.R_nil _ _ _ _ _|exact Kd.N_nil _ _ _ _ _|exact Kd.V_nil _ _ _ _ _|exact Kd.Q_nil _ _ _ _ _|exact Kd.S_nil _ _ _ _ _⟩,⟨by repeat (first|(with_reducible first|exact HB.out|apply below_alloc|apply pw_below_drewN|apply below_drew1)|exact HB.out)⟩⟩
  case round =>
    clear H'
    try clear c1
    obtain ⟨x3_1,x4_1,rfl,HA,HK1,HO_3,HB⟩:=hrel
    cases gk with
    | zero=>exact absurd HA.out (by simp [girderref00_limbs.l0])
    | succ k1 =>
      have H:=HA.out
      clear HA
      simp only [girderref00_limbs.l0] at H
      by_cases c2:x4_1 < (l0.length:Int)
      · rw [if_pos c2] at H
        have c2b0:decide (x4_1 < (l0.length:Int))=true:=decide_eq_true c2
        clear c2
        by_cases c3:0≤x4_1
        · rw [if_pos c3] at H
          have c3b0:decide (0≤x4_1)=true:=decide_eq_true c3
          clear c3
          by_cases c4:(wrap64 (x4_1 + 1)) < (l0.length:Int)
          · rw [if_pos c4] at H
            have c4b0:decide ((wrap64 (x4_1 + 1)) < (l0.length:Int))=true:=decide_eq_true c4
            clear c4
            obtain ⟨ji5,hji5⟩:∃ j_:Int,(wrap64 (x4_1 + 1))=j_:=⟨_,rfl⟩
            replace H:(if 0≤(ji5) then (if x3_1.length < 17592186044416 then (girderref00_limbs.l0 k1 l0 (x3_1 ++ [IntKind.u64.wrap ((rd l0 x4_1) + (IntKind.u64.wrap (4294967296 * (rd l0 (ji5)))))]) (wrap64 (x4_1 + 2))) else (none)) else (none))=some r:=by first|(rw [hji5] at H;exact H)|(simp only [hji5] at H ⊢;exact H)
            (try rw [hji5] at c4b0)
            have hji5w:(IntKind.i64.wrap (x4_1 + 1))=ji5:=(i64_w _).trans hji5
            by_cases c6:0≤(ji5)
            · rw [if_pos c6] at H
              have c6b0:decide (0≤(ji5))=true:=decide_eq_true c6
              clear c6
              by_cases c7:x3_1.length < 17592186044416
              · rw [if_pos c7] at H
                have LMc7:=Aside0.mk c7
                clear c7
                obtain ⟨y112,hy112⟩:∃ y_:List Int,y_=(x3_1 ++ [IntKind.u64.wrap ((rd l0 x4_1) + (IntKind.u64.wrap (4294967296 * (rd l0 (ji5)))))]):=⟨_,rfl⟩
                replace H:(girderref00_limbs.l0 k1 l0 y112 (wrap64 (x4_1 + 2)))=some r:=by first|(rw [hy112];with_reducible exact H)|(have H2_:=(Option.bind_some _ _).symm.trans H;rw [hy112];with_reducible exact H2_)|(have H2_:=(Option.bind_some _ _).symm.trans H;with_reducible exact H2_)|with_reducible exact H|(rw [hy112];exact H)|exact H
                have Ny112:=Aside0.mk hy112
                clear hy112
                have H':=Aside0.mk H
                clear H
                have p110:0≤(x4_1:Int):=of_decide_eq_true (by first|(with_reducible assumption)|assumption)
                have q110:x4_1 < (l0.length:Int):=of_decide_eq_true (by first|(with_reducible assumption)|assumption)
                obtain ⟨ad110,e110,hx110_0⟩:=Kd.at_int HR0.out x4_1 p110 q110
                cases e110
                replace hx110_0:=(HB.out.cell (World.block_lt_of_cell? w _ hx110_0)).trans hx110_0
                replace p110:=eq_true p110
                replace q110:=eq_true q110
                have p111:0≤((ji5):Int):=of_decide_eq_true (by first|(with_reducible assumption)|assumption)
                have q111:(ji5) < (l0.length:Int):=of_decide_eq_true (by first|(with_reducible assumption)|assumption)
                obtain ⟨ad111,e111,hx111_0⟩:=Kd.at_int HR0.out (ji5) p111 q111
                obtain rfl:ad110=ad111:=(by injection e111)
                replace hx111_0:=(HB.out.cell (World.block_lt_of_cell? w _ hx111_0)).trans hx111_0
                replace p111:=eq_true p111
                replace q111:=eq_true q111
                go_wp2_with (first|((with_reducible refine gate_builtin (b:=.append) (xs:=#[.tmp 29,.tmp 31]) rfl ?_);at_builtin;refine Kd.R_append (Kd.int .u64) (w0:=w) w.heap.size rfl (.tmp 29) (.tmp 31) 46 38 (.int .u64 0) 8 rfl Tryz.underlying46 info38 rfl (by decide) (by omega) u3 x3_1 (IntKind.u64.wrap ((rd l0 x4_1) + (IntKind.u64.wrap (4294967296 * (rd l0 (ji5)))))) [.int .u64 (IntKind.u64.wrap ((rd l0 x4_1) + (IntKind.u64.wrap (4294967296 * (rd l0 (ji5))))))] (fun _=>True) (fun _=>False) rfl rfl ?aP (fun _ hk=>hk.elim) ?aF ?aO ?aB ?aS ?aL ?_;(case aP=>exact rfl);(case aB=>exact (by repeat (first|(with_reducible first|exact HB.out|apply below_alloc|apply pw_below_drewN|apply below_drew1)|exact HB.out)));(case aF=>exact (fun _ _=>trivial));(case aO=>exact (by (with_reducible repeat (first|apply Kd.R_alloc|apply Kd.R_drewN|apply Kd.R_drew));exact HO_3.out));(case aS=>exact (below_size (by repeat (first|(with_reducible first|exact HB.out|apply below_alloc|apply pw_below_drewN|apply below_drew1)|exact HB.out))));(case aL=>have:=LMc7.out;omega);intro v113 w8 ho hb hg hat;rw [← Ny112.out] at ho;have n0_:=Aside0.mk (hb);have n1_:=Aside0.mk (ho);clear HB;clear HO_3;have HB:=n0_;have HO114:=n1_;clear n0_ n1_;clear ho hb hg hat))
                go_roundg k1
                case measure=>have:=HK1.out;omega
                case rel=>exact ⟨(y112),(wrap64 (x4_1 + 2)),(by first|rfl|(simp;done)|(simp [*];done)),H',⟨by have:=HK1.out;omega⟩,⟨by (with_reducible repeat (first|apply Kd.R_alloc|apply Kd.R_drewN|apply Kd.R_drew));exact HO114.out⟩,⟨by repeat (first|(with_reducible first|exact HB.out|apply below_alloc|apply pw_below_drewN|apply below_drew1)|exact HB.out)⟩⟩
              · rw [if_neg c7] at H
                exact absurd H (by simp)
            · rw [if_neg c6] at H
              exact absurd H (by simp)
          · rw [if_neg c4] at H
            have c4b0:decide ((wrap64 (x4_1 + 1)) < (l0.length:Int))=false:=decide_eq_false c4
            clear c4
            by_cases c9:x3_1.length < 17592186044416
            · rw [if_pos c9] at H
              have LMc9:=Aside0.mk c9
              clear c9
              obtain ⟨y115,hy115⟩:∃ y_:List Int,y_=(x3_1 ++ [rd l0 x4_1]):=⟨_,rfl⟩
              replace H:(girderref00_limbs.l0 k1 l0 y115 (wrap64 (x4_1 + 2)))=some r:=by first|(rw [hy115];with_reducible exact H)|(have H2_:=(Option.bind_some _ _).symm.trans H;rw [hy115];with_reducible exact H2_)|(have H2_:=(Option.bind_some _ _).symm.trans H;with_reducible exact H2_)|with_reducible exact H|(rw [hy115];exact H)|exact H
              have Ny115:=Aside0.mk hy115
              clear hy115
              have H':=Aside0.mk H
              clear H
              have p110:0≤(x4_1:Int):=of_decide_eq_true (by first|(with_reducible assumption)|assumption)
              have q110:x4_1 < (l0.length:Int):=of_decide_eq_true (by first|(with_reducible assumption)|assumption)
              obtain ⟨ad110,e110,hx110_0⟩:=Kd.at_int HR0.out x4_1 p110 q110
              cases e110
              replace hx110_0:=(HB.out.cell (World.block_lt_of_cell? w _ hx110_0)).trans hx110_0
              replace p110:=eq_true p110
              replace q110:=eq_true q110
              go_wp2_with (first|((with_reducible refine gate_builtin (b:=.append) (xs:=#[.tmp 29,.tmp 31]) rfl ?_);at_builtin;refine Kd.R_append (Kd.int .u64) (w0:=w) w.heap.size rfl (.tmp 29) (.tmp 31) 46 38 (.int .u64 0) 8 rfl Tryz.underlying46 info38 rfl (by decide) (by omega) u3 x3_1 (rd l0 x4_1) [.int .u64 (rd l0 x4_1)] (fun _=>True) (fun _=>False) rfl rfl ?aP (fun _ hk=>hk.elim) ?aF ?aO ?aB ?aS ?aL ?_;(case aP=>exact rfl);(case aB=>exact (by repeat (first|(with_reducible first|exact HB.out|apply below_alloc|apply pw_below_drewN|apply below_drew1)|exact HB.out)));(case aF=>exact (fun _ _=>trivial));(case aO=>exact (by (with_reducible repeat (first|apply Kd.R_alloc|apply Kd.R_drewN|apply Kd.R_drew));exact HO_3.out));(case aS=>exact (below_size (by repeat (first|(with_reducible first|exact HB.out|apply below_alloc|apply pw_below_drewN|apply below_drew1)|exact HB.out))));(case aL=>have:=LMc9.out;omega);intro v116 w10 ho hb hg hat;rw [← Ny115.out] at ho;have n0_:=Aside0.mk (hb);have n1_:=Aside0.mk (ho);clear HB;clear HO_3;have HB:=n0_;have HO117:=n1_;clear n0_ n1_;clear ho hb hg hat))
              go_roundg k1
              case measure=>have:=HK1.out;omega
              case rel=>exact ⟨(y115),(wrap64 (x4_1 + 2)),(by first|rfl|(simp;done)|(simp [*];done)),H',⟨by have:=HK1.out;omega⟩,⟨by (with_reducible repeat (first|apply Kd.R_alloc|apply Kd.R_drewN|apply Kd.R_drew));exact HO117.out⟩,⟨by repeat (first|(with_reducible first|exact HB.out|apply below_alloc|apply pw_below_drewN|apply below_drew1)|exact HB.out)⟩⟩
            · rw [if_neg c9] at H
              exact absurd H (by simp)
        · rw [if_neg c3] at H
          exact absurd H (by simp)
      · rw [if_neg c2] at H
        have c2b0:decide (x4_1 < (l0.length:Int))=false:=decide_eq_false c2
        clear c2
        replace H:=Option.bind_eq_some_iff.mp H
        obtain ⟨t118,A110,H⟩:=H
        replace H:(some t118)=some r:=H
        have A11:=Aside0.mk A110
        clear A110
        obtain rfl:=Option.some.inj H
        obtain ⟨Ao12,co12,eo12⟩:=Kd.R_slice HO_3.out
        subst eo12
        go_wp2_with (first|((with_reducible refine gate_callee (f:=129) rfl ?_);refine goesL_ (some 34) rfl rfl Tryz.func129 (by kernel_rfl) rfl #[.slice Ao12 x3_1.length co12] rfl (by (try simp only [List.map_toArray,List.map_cons,List.map_nil]);first|done|rfl|(simp only [List.length_drop,List.length_take];rfl)) ?_;(with_reducible refine (girderref00_NatTrim.calls k1 _ _ x3_1 t118 _ ?side1 ?side2 A11.out).mono ?_);(case side1=>repeat (first|exact (Kd.R_reads' HO_3.out).2.2|(with_reducible refine Kd.C_alloc ?_ _)|(with_reducible refine Kd.C_drewN ?_ _)|(with_reducible refine Kd.C_drew ?_)));(case side2=>exact (Kd.R_reads' HO_3.out).2.1);rintro e w13 ⟨v119,rfl,ho0,hb⟩;refine ⟨_,rfl,?_⟩;have n0_:=Aside0.mk (Kd.R_elder' (by (with_reducible repeat (first|apply Kd.R_alloc|apply Kd.R_drewN|apply Kd.R_drew));exact HO_3.out) (Kd.R_base ho0) hb);have n1_:=Aside0.mk (Kd.R_lower (Kd.R_new' ho0 (Kd.R_lt (by (with_reducible repeat (first|apply Kd.R_alloc|apply Kd.R_drewN|apply Kd.R_drew));exact HO_3.out))) (below_size (by repeat (first|(with_reducible first|exact HB.out|apply below_alloc|apply pw_below_drewN|apply below_drew1)|exact HB.out))));have n2_:=Aside0.mk (below_step (by repeat (first|(with_reducible first|exact HB.out|apply below_alloc|apply pw_below_drewN|apply below_drew1)|exact HB.out)) hb);clear HO_3;clear HB;have HO_3:=n0_;have HO120:=n1_;have HB:=n2_;clear n0_ n1_ n2_;(try clear hb);(try clear hb2);(try clear hk);(try clear hi);(try clear ho0)))
        go_ret
        exact ⟨_,by first|rfl|(simp [errW_none,errW_some] <;> rfl)|(simp [*,errW_none,errW_some] <;> rfl),by (with_reducible repeat (first|apply Kd.R_alloc|apply Kd.R_drewN|apply Kd.R_drew));exact Kd.R_mono HO120.out (fun _ hk=>trivial),by repeat (first|(with_reducible first|exact HB.out|apply below_alloc|apply pw_below_drewN|apply below_drew1)|exact HB.out)⟩
def girderref00_low.l0:Nat→List Int→Int→Option (List Int)
  | 0,_,_=>none
  | k + 1,x0,x3=>if x3 > 0 then (if 0≤(wrap64 (x3 - 1)) then (if (wrap64 (x3 - 1)) < (x0.length:Int) then (if (rd x0 (wrap64 (x3 - 1)))=0 then (girderref00_low.l0 k x0 (wrap64 (x3 - 1))) else (if 0≤x3 then (if x3≤(x0.length:Int) then (some (x0.take (x3:Int).toNat)) else (none)) else (none))) else (none)) else (none)) else (if 0≤x3 then (if x3≤(x0.length:Int) then (some (x0.take (x3:Int).toNat)) else (none)) else (none))
def girderref00_low.f (k:Nat) (l0:List Int):Option (List Int):=girderref00_low.l0 k l0 (l0.length:Int)
theorem girderref00_low.mono_l:∀ k,(∀ y0 y1,LeO (girderref00_low.l0 k y0 y1) (girderref00_low.l0 (k + 1) y0 y1))
  | 0=>fun _ _ r h=>by simp [girderref00_low.l0] at h
  | k + 1=>by
    have ih0:=girderref00_low.mono_l k
    · intro y0 y1
      unfold girderref00_low.l0
      repeat' first
      | (with_reducible exact ih0 _ _)
      | (with_reducible exact LeO.refl _)
      | (with_reducible exact LeO.none _)
      | (with_reducible refine LeO.ite ?_ ?_)
      | (with_reducible refine LeO.bind ?_ (fun _=>?_))
      | exact ih0 _ _
      | exact LeO.none _
      | refine LeO.ite ?_ ?_
      | refine LeO.bind ?_ (fun _=>?_)
theorem girderref00_low.mono:∀ a0 k,LeO (girderref00_low.f k a0) (girderref00_low.f (k + 1) a0):=by
  intro a0 k
  have ih0:=girderref00_low.mono_l k
  unfold girderref00_low.f
  repeat' first
      | (with_reducible exact ih0 _ _)
      | (with_reducible exact LeO.refl _)
      | (with_reducible exact LeO.none _)
      | (with_reducible refine LeO.ite ?_ ?_)
      | (with_reducible refine LeO.bind ?_ (fun _=>?_))
      | exact ih0 _ _
      | exact LeO.none _
      | refine LeO.ite ?_ ?_
      | refine LeO.bind ?_ (fun _=>?_)
set_option maxHeartbeats 8000000 in
set_option maxRecDepth 100000 in
theorem girderref00_low.calls (k:Nat) (P0_:Nat→Prop) (u9000_:Value) (l0:List Int) (r:List Int) (w0 w:World) (hB:Below w0.heap.size w0 w) (ho0:Kd.R (Kd.int .u64) 38 w w0.heap.size P0_ u9000_ l0) (h:girderref00_low.f k l0=some r) :
    Calls Tryz.prog 134 #[u9000_] w fun e w'=>∃ v0_:Value,e=.returned (v0_)∧Kd.R (Kd.int .u64) 38 w' w0.heap.size (fun k_=>(P0_ k_ ∨ w.heap.size≤k_)) v0_ r∧Below w0.heap.size w0 w'∧Kept w w' (fun k_=>P0_ k_):=by
  have HO0:=Aside0.mk (show Kd.R (Kd.int .u64) 38 w w0.heap.size (fun k_=>(P0_ k_ ∨ w.heap.size≤k_)) u9000_ l0 from Kd.R_mono ho0 (fun k_ hk=>(.inl hk)))
  have HK:=Aside0.mk (Kept.refl w (fun k_=>P0_ k_))
  have HW0:=Aside0.mk hB.size
  have HB:=Aside0.mk hB
  clear hB
  have H:(girderref00_low.l0 k l0 (l0.length:Int))=some r:=h
  clear h
  have H':=Aside0.mk H
  clear H
  obtain ⟨Ao2,co2,eo2⟩:=Kd.R_slice HO0.out
  subst eo2
  go_enter Tryz.func134,Tryz.ntmps134
  go_wp2
  go_loopg [3] k (fun kq v3 w'=>∃ (x3_1:Int),v3=.int .i64 x3_1∧Aside0 (girderref00_low.l0 kq l0 x3_1=some r)∧Aside0 (kq≤k)∧Aside0 (Kd.R (Kd.int .u64) 38 w' w0.heap.size (fun k_=>(P0_ k_ ∨ w.heap.size≤k_)) (.slice Ao2 l0.length co2) l0)∧Aside0 (Kept w w' (fun k_=>P0_ k_))∧Aside0 (Below w0.heap.size w0 w'))
  case atStart=>exact ⟨((l0.length:Int)),(by first|rfl|(simp;done)|(simp [*];done)),H',⟨Nat.le_refl _⟩,⟨by (with_reducible repeat (first|apply Kd.R_alloc|apply Kd.R_drewN|apply Kd.R_drew));exact HO0.out⟩,⟨by repeat (first|(with_reducible first|exact HK.out|apply Kept.alloc|apply Kept.drewN|apply Kept.drew)|exact HK.out)⟩,⟨by repeat (first|(with_reducible first|exact HB.out|apply below_alloc|apply pw_below_drewN|apply below_drew1)|exact HB.out)⟩⟩
  case round =>
    clear H'
    try clear c1
    try clear p2
    obtain ⟨x3_1,rfl,HA,HK1,HO_0,HK,HB⟩:=hrel
    cases gk with
    | zero=>exact absurd HA.out (by simp [girderref00_low.l0])
    | succ k1 =>
      have H:=HA.out
      clear HA
      simp only [girderref00_low.l0] at H
      by_cases c3:x3_1 > 0
      · rw [if_pos c3] at H
        have c3b0:decide (0 < x3_1)=true:=decide_eq_true c3
        clear c3
        obtain ⟨ji4,hji4⟩:∃ j_:Int,(wrap64 (x3_1 - 1))=j_:=⟨_,rfl⟩
        replace H:(if 0≤(ji4) then (if (ji4) < (l0.length:Int) then (if (rd l0 (ji4))=0 then (girderref00_low.l0 k1 l0 ji4) else (if 0≤x3_1 then (if x3_1≤(l0.length:Int) then (some (l0.take (x3_1:Int).toNat)) else (none)) else (none))) else (none)) else (none))=some r:=by first|(rw [hji4] at H;exact H)|(simp only [hji4] at H ⊢;exact H)
        have hji4w:(IntKind.i64.wrap (x3_1 - 1))=ji4:=(i64_w _).trans hji4
        by_cases c5:0≤(ji4)
        · rw [if_pos c5] at H
          have c5b0:decide (0≤(ji4))=true:=decide_eq_true c5
          clear c5
          by_cases c6:(ji4) < (l0.length:Int)
          · rw [if_pos c6] at H
            have c6b0:decide ((ji4) < (l0.length:Int))=true:=decide_eq_true c6
            clear c6
            by_cases c7:(rd l0 (ji4))=0
            · rw [if_pos c7] at H
              have c7b0:((rd l0 (ji4)) == 0)=true:=beq_iff_eq.mpr c7
              have c7b1:((rd l0 (ji4)) != 0)=false:=bne_eq_false_iff_eq.mpr c7
              clear c7
              have H':=Aside0.mk H
              clear H
              have p121:0≤((ji4):Int):=of_decide_eq_true (by first|(with_reducible assumption)|assumption)
              have q121:(ji4) < (l0.length:Int):=of_decide_eq_true (by first|(with_reducible assumption)|assumption)
              obtain ⟨ad121,e121,hx121_0⟩:=Kd.at_int (Kd.R_reads' HO_0.out).2.2 (ji4) p121 q121
              cases e121
              replace p121:=eq_true p121
              replace q121:=eq_true q121
              go_wp2
              go_roundg k1
              case measure=>have:=HK1.out;omega
              case rel=>exact ⟨(ji4),(by first|rfl|(simp;done)|(simp only [← hji4] <;> (first|rfl|simp))|(simp [*];done)),H',⟨by have:=HK1.out;omega⟩,⟨by (with_reducible repeat (first|apply Kd.R_alloc|apply Kd.R_drewN|apply Kd.R_drew));exact HO_0.out⟩,⟨by repeat (first|(with_reducible first|exact HK.out|apply Kept.alloc|apply Kept.drewN|apply Kept.drew)|exact HK.out)⟩,⟨by repeat (first|(with_reducible first|exact HB.out|apply below_alloc|apply pw_below_drewN|apply below_drew1)|exact HB.out)⟩⟩
            · rw [if_neg c7] at H
              have c7b0:((rd l0 (ji4)) == 0)=false:=beq_eq_false_iff_ne.mpr c7
              have c7b1:((rd l0 (ji4)) != 0)=true:=bne_iff_ne.mpr c7
              by_cases c8:0≤x3_1
              · rw [if_pos c8] at H
                have c8b0:=eq_true c8
                have c8b1:decide (0≤x3_1)=true:=decide_eq_true c8
                clear c8
                by_cases c9:x3_1≤(l0.length:Int)
                · rw [if_pos c9] at H
                  have c9b0:=eq_true c9
                  have c9b1:decide (x3_1≤(l0.length:Int))=true:=decide_eq_true c9
                  clear c9
                  obtain ⟨y122,hy122⟩:∃ y_:List Int,y_=(l0.take (x3_1:Int).toNat):=⟨_,rfl⟩
                  replace H:(some y122)=some r:=by first|(rw [hy122];with_reducible exact H)|(have H2_:=(Option.bind_some _ _).symm.trans H;rw [hy122];with_reducible exact H2_)|(have H2_:=(Option.bind_some _ _).symm.trans H;with_reducible exact H2_)|with_reducible exact H|(rw [hy122];exact H)|exact H
                  have Ny122:=Aside0.mk hy122
                  clear hy122
                  obtain rfl:=Option.some.inj H
                  have p121:0≤((ji4):Int):=of_decide_eq_true (by first|(with_reducible assumption)|assumption)
                  have q121:(ji4) < (l0.length:Int):=of_decide_eq_true (by first|(with_reducible assumption)|assumption)
                  obtain ⟨ad121,e121,hx121_0⟩:=Kd.at_int (Kd.R_reads' HO_0.out).2.2 (ji4) p121 q121
                  cases e121
                  replace p121:=eq_true p121
                  replace q121:=eq_true q121
                  have q10:(x3_1:Int)≤((l0.length:Int):Int):=of_decide_eq_true (by first|(with_reducible assumption)|assumption)
                  obtain ⟨i010,hi010,_,hsz10,_⟩:=info_parts info38
                  have hcut10:=cut_to (P:=Tryz.prog) 46 38 .i64 Tryz.underlying46 hi010 (some ad121) l0.length co2 x3_1 (of_decide_eq_true (by first|(with_reducible assumption)|assumption)) q10 (Kd.R_reads' HO_0.out).2.1
                  have hr10:=Kd.R_take (m:=(x3_1:Int).toNat) HO_0.out (by omega)
                  have hy10:y122.length=(x3_1:Int).toNat:=(by rw [Ny122.out,List.length_take];omega)
                  rw [← Ny122.out] at hr10
                  rw [← hy10] at hr10 hcut10
                  clear hy10 hi010 hsz10 HO_0
                  have HO124:=Aside0.mk hr10
                  clear hr10
                  replace q10:=eq_true q10
                  go_wp2
                  go_ret
                  exact ⟨_,by first|rfl|(simp [errW_none,errW_some] <;> rfl)|(simp only [← hji4];first|rfl|(simp [errW_none,errW_some] <;> rfl))|(simp [*,errW_none,errW_some] <;> rfl),by (with_reducible repeat (first|apply Kd.R_alloc|apply Kd.R_drewN|apply Kd.R_drew));exact HO124.out,by repeat (first|(with_reducible first|exact HB.out|apply below_alloc|apply pw_below_drewN|apply below_drew1)|exact HB.out),by repeat (first|(with_reducible first|exact HK.out|apply Kept.alloc|apply Kept.drewN|apply Kept.drew)|exact HK.out)⟩
                · rw [if_neg c9] at H
                  exact absurd H (by simp)
              · rw [if_neg c8] at H
                exact absurd H (by simp)
          · rw [if_neg c6] at H
            exact absurd H (by simp)
        · rw [if_neg c5] at H
          exact absurd H (by simp)
      · rw [if_neg c3] at H
        have c3b0:decide (0 < x3_1)=false:=decide_eq_false c3
        clear c3
        by_cases c11:0≤x3_1
        · rw [if_pos c11] at H
          have c11b0:=eq_true c11
          have c11b1:decide (0≤x3_1)=true:=decide_eq_true c11
          clear c11
          by_cases c12:x3_1≤(l0.length:Int)
          · rw [if_pos c12] at H
            have c12b0:=eq_true c12
            have c12b1:decide (x3_1≤(l0.length:Int))=true:=decide_eq_true c12
            clear c12
            obtain ⟨y125,hy125⟩:∃ y_:List Int,y_=(l0.take (x3_1:Int).toNat):=⟨_,rfl⟩
            replace H:(some y125)=some r:=by first|(rw [hy125];with_reducible exact H)|(have H2_:=(Option.bind_some _ _).symm.trans H;rw [hy125];with_reducible exact H2_)|(have H2_:=(Option.bind_some _ _).symm.trans H;with_reducible exact H2_)|with_reducible exact H|(rw [hy125];exact H)|exact H
            have Ny125:=Aside0.mk hy125
            clear hy125
            obtain rfl:=Option.some.inj H
            have q13:(x3_1:Int)≤((l0.length:Int):Int):=of_decide_eq_true (by first|(with_reducible assumption)|assumption)
            obtain ⟨i013,hi013,_,hsz13,_⟩:=info_parts info38
            have hcut13:=cut_to (P:=Tryz.prog) 46 38 .i64 Tryz.underlying46 hi013 Ao2 l0.length co2 x3_1 (of_decide_eq_true (by first|(with_reducible assumption)|assumption)) q13 (Kd.R_reads' HO_0.out).2.1
            have hr13:=Kd.R_take (m:=(x3_1:Int).toNat) HO_0.out (by omega)
            have hy13:y125.length=(x3_1:Int).toNat:=(by rw [Ny125.out,List.length_take];omega)
            rw [← Ny125.out] at hr13
            rw [← hy13] at hr13 hcut13
            clear hy13 hi013 hsz13 HO_0
            have HO127:=Aside0.mk hr13
            clear hr13
            replace q13:=eq_true q13
            go_wp2
            go_ret
            exact ⟨_,by first|rfl|(simp [errW_none,errW_some] <;> rfl)|(simp [*,errW_none,errW_some] <;> rfl),by (with_reducible repeat (first|apply Kd.R_alloc|apply Kd.R_drewN|apply Kd.R_drew));exact HO127.out,by repeat (first|(with_reducible first|exact HB.out|apply below_alloc|apply pw_below_drewN|apply below_drew1)|exact HB.out),by repeat (first|(with_reducible first|exact HK.out|apply Kept.alloc|apply Kept.drewN|apply Kept.drew)|exact HK.out)⟩
          · rw [if_neg c12] at H
            exact absurd H (by simp)
        · rw [if_neg c11] at H
          exact absurd H (by simp)
mutual
def girderref00_product.l0:Nat→List Int→List Int→List Int→Int→Option (List Int)
  | 0,_,_,_,_=>none
  | k + 1,x0,x1,x5,x6=>if x6 < (x0.length:Int) then (girderref00_product.l1 k x0 x1 x5 x6 0 0) else ((girderref00_low.f k x5).bind fun t131=>(some t131))
def girderref00_product.l1:Nat→List Int→List Int→List Int→Int→Int→Int→Option (List Int)
  | 0,_,_,_,_,_,_=>none
  | k + 1,x0,x1,x5,x6,x7,x8=>if x8 < (x1.length:Int) then (if 0≤x6 then (if x6 < (x0.length:Int) then (if 0≤x8 then (if 0≤(wrap64 (x6 + x8)) then (if (wrap64 (x6 + x8)) < (x5.length:Int) then (girderref00_product.l1 k x0 x1 (x5.set ((wrap64 (x6 + x8)):Int).toNat (Int.tmod (IntKind.u64.wrap ((IntKind.u64.wrap ((IntKind.u64.wrap ((rd x0 x6) * (rd x1 x8))) + (rd x5 (wrap64 (x6 + x8))))) + x7)) 4294967296)) x6 (IntKind.u64.wrap (Int.tdiv (IntKind.u64.wrap ((IntKind.u64.wrap ((IntKind.u64.wrap ((rd x0 x6) * (rd x1 x8))) + (rd x5 (wrap64 (x6 + x8))))) + x7)) 4294967296)) (wrap64 (x8 + 1))) else (none)) else (none)) else (none)) else (none)) else (none)) else (if 0≤(wrap64 (x6 + (x1.length:Int))) then (if (wrap64 (x6 + (x1.length:Int))) < (x5.length:Int) then (girderref00_product.l0 k x0 x1 (x5.set ((wrap64 (x6 + (x1.length:Int))):Int).toNat x7) (wrap64 (x6 + 1))) else (none)) else (none))
end
def girderref00_product.f (k:Nat) (l0:List Int) (l1:List Int):Option (List Int):=if 0≤(wrap64 ((l0.length:Int) + (l1.length:Int))) then (if (wrap64 ((l0.length:Int) + (l1.length:Int)):Int).toNat≤35184372088832 then (girderref00_product.l0 k l0 l1 (List.replicate (wrap64 ((l0.length:Int) + (l1.length:Int)):Int).toNat 0) 0) else (none)) else (none)
theorem girderref00_product.mono_l:∀ k,(∀ y0 y1 y2 y3,LeO (girderref00_product.l0 k y0 y1 y2 y3) (girderref00_product.l0 (k + 1) y0 y1 y2 y3))∧(∀ y0 y1 y2 y3 y4 y5,LeO (girderref00_product.l1 k y0 y1 y2 y3 y4 y5) (girderref00_product.l1 (k + 1) y0 y1 y2 y3 y4 y5))
  | 0=>⟨fun _ _ _ _ r h=>by simp [girderref00_product.l0] at h,fun _ _ _ _ _ _ r h=>by simp [girderref00_product.l1] at h⟩
  | k + 1=>by
    obtain ⟨ih0,ih1⟩:=girderref00_product.mono_l k
    refine ⟨?_,?_⟩
    · intro y0 y1 y2 y3
      unfold girderref00_product.l0
      repeat' first
      | (with_reducible exact ih0 _ _ _ _)
      | (with_reducible exact ih1 _ _ _ _ _ _)
      | (with_reducible exact girderref00_low.mono _ _)
      | (with_reducible exact LeO.refl _)
      | (with_reducible exact LeO.none _)
      | (with_reducible refine LeO.ite ?_ ?_)
      | (with_reducible refine LeO.bind ?_ (fun _=>?_))
      | exact ih0 _ _ _ _
      | exact ih1 _ _ _ _ _ _
      | exact girderref00_low.mono _ _
      | exact LeO.none _
      | refine LeO.ite ?_ ?_
      | refine LeO.bind ?_ (fun _=>?_)
    · intro y0 y1 y2 y3 y4 y5
      unfold girderref00_product.l1
      repeat' first
      | (with_reducible exact ih0 _ _ _ _)
      | (with_reducible exact ih1 _ _ _ _ _ _)
      | (with_reducible exact girderref00_low.mono _ _)
      | (with_reducible exact LeO.refl _)
      | (with_reducible exact LeO.none _)
      | (with_reducible refine LeO.ite ?_ ?_)
      | (with_reducible refine LeO.bind ?_ (fun _=>?_))
      | exact ih0 _ _ _ _
      | exact ih1 _ _ _ _ _ _
      | exact girderref00_low.mono _ _
      | exact LeO.none _
      | refine LeO.ite ?_ ?_
      | refine LeO.bind ?_ (fun _=>?_)
theorem girderref00_product.mono:∀ a0 a1 k,LeO (girderref00_product.f k a0 a1) (girderref00_product.f (k + 1) a0 a1):=by
  intro a0 a1 k
  obtain ⟨ih0,ih1⟩:=girderref00_product.mono_l k
  unfold girderref00_product.f
  repeat' first
      | (with_reducible exact ih0 _ _ _ _)
      | (with_reducible exact ih1 _ _ _ _ _ _)
      | (with_reducible exact girderref00_low.mono _ _)
      | (with_reducible exact LeO.refl _)
      | (with_reducible exact LeO.none _)
      | (with_reducible refine LeO.ite ?_ ?_)
      | (with_reducible refine LeO.bind ?_ (fun _=>?_))
      | exact ih0 _ _ _ _
      | exact ih1 _ _ _ _ _ _
      | exact girderref00_low.mono _ _
      | exact LeO.none _
      | refine LeO.ite ?_ ?_
      | refine LeO.bind ?_ (fun _=>?_)
set_option maxHeartbeats 8000000 in
set_option maxRecDepth 100000 in
theorem girderref00_product.calls (k:Nat) (A0:Option Addr) (c0:Nat) (l0:List Int) (A1:Option Addr) (c1:Nat) (l1:List Int) (r:List Int) (w:World) (hr0:Kd.C (Kd.int .u64) w A0 l0.length l0) (hc0:l0.length≤c0) (hr1:Kd.C (Kd.int .u64) w A1 l1.length l1) (hc1:l1.length≤c1) (h:girderref00_product.f k l0 l1=some r) :
    Calls Tryz.prog 107 #[.slice A0 l0.length c0,.slice A1 l1.length c1] w fun e w'=>∃ v0_:Value,e=.returned (v0_)∧Kd.R (Kd.int .u64) 38 w' w.heap.size (fun _=>True) v0_ r∧Below w.heap.size w w':=by
  have HR0:=Aside0.mk hr0
  have HC0:=Aside0.mk hc0
  clear hr0 hc0
  have HR1:=Aside0.mk hr1
  have HC1:=Aside0.mk hc1
  clear hr1 hc1
  have HB:=Aside0.mk (Below.refl w.heap.size w)
  have H:(if 0≤(wrap64 ((l0.length:Int) + (l1.length:Int))) then (if (wrap64 ((l0.length:Int) + (l1.length:Int)):Int).toNat≤35184372088832 then (girderref00_product.l0 k l0 l1 (List.replicate (wrap64 ((l0.length:Int) + (l1.length:Int)):Int).toNat 0) 0) else (none)) else (none))=some r:=h
  clear h
  obtain ⟨ji3,hji3⟩:∃ j_:Int,(wrap64 ((l0.length:Int) + (l1.length:Int)))=j_:=⟨_,rfl⟩
  replace H:(if 0≤(ji3) then (if (ji3:Int).toNat≤35184372088832 then (girderref00_product.l0 k l0 l1 (List.replicate (ji3:Int).toNat 0) 0) else (none)) else (none))=some r:=by first|(rw [hji3] at H;exact H)|(simp only [hji3] at H ⊢;exact H)
  have hji3w:(IntKind.i64.wrap ((l0.length:Int) + (l1.length:Int)))=ji3:=(i64_w _).trans hji3
  by_cases c4:0≤(ji3)
  · rw [if_pos c4] at H
    have c4b0:=eq_true c4
    have c4b1:decide (0≤(ji3))=true:=decide_eq_true c4
    clear c4
    by_cases c5:(ji3:Int).toNat≤35184372088832
    · rw [if_pos c5] at H
      have c5b0:=eq_true c5
      have c5b1:decide ((ji3:Int).toNat≤35184372088832)=true:=decide_eq_true c5
      clear c5
      obtain ⟨y128,hy128⟩:∃ y_:List Int,y_=(List.replicate (ji3:Int).toNat 0):=⟨_,rfl⟩
      replace H:(girderref00_product.l0 k l0 l1 y128 0)=some r:=by first|(rw [hy128];with_reducible exact H)|(have H2_:=(Option.bind_some _ _).symm.trans H;rw [hy128];with_reducible exact H2_)|(have H2_:=(Option.bind_some _ _).symm.trans H;with_reducible exact H2_)|with_reducible exact H|(rw [hy128];exact H)|exact H
      have Ny128:=Aside0.mk hy128
      clear hy128
      have H':=Aside0.mk H
      clear H
      go_enter Tryz.func107,Tryz.ntmps107
      go_wp2_with (first|((with_reducible refine gate_dst (N:=15) rfl ?_);refine Kd.R_make (Kd.int .u64) _ 38 rfl (N:=15) rfl 46 _ _ rfl ji3 rfl rfl Tryz.underlying46 (.int .u64 0) 8 info38 rfl (by decide) (by omega) 0 (ok:=fun _=>True) (okp:=fun _=>True) rfl (fun _ hk=>hk) trivial (of_decide_eq_true (by first|(with_reducible assumption)|assumption)) (Nat.le_trans (Nat.mul_le_mul_right _ (of_decide_eq_true (by first|(with_reducible assumption)|assumption):ji3.toNat≤35184372088832)) (by omega)) (Below.refl _ _) (Nat.le_refl _) ?_;intro v129 w6 ho7 hb hg_ hnew_;clear hg_ hnew_;(first|rw [← Ny128.out] at ho7|(simp only [Int.reduceToNat] at ho7;rw [← Ny128.out] at ho7));have n0_:=Aside0.mk (Kd.R_lower ho7 (below_size (by repeat (first|(with_reducible first|exact HB.out|apply below_alloc|apply pw_below_drewN|apply below_drew1)|exact HB.out))));have n1_:=Aside0.mk (below_step (by repeat (first|(with_reducible first|exact HB.out|apply below_alloc|apply pw_below_drewN|apply below_drew1)|exact HB.out)) hb);clear HB;have HO130:=n0_;have HB:=n1_;clear n0_ n1_;clear hb ho7))
      repeat (go_quiet (first|((with_reducible refine gate_dst (N:=15) rfl ?_);refine Kd.R_make (Kd.int .u64) _ 38 rfl (N:=15) rfl 46 _ _ rfl ji3 rfl rfl Tryz.underlying46 (.int .u64 0) 8 info38 rfl (by decide) (by omega) 0 (ok:=fun _=>True) (okp:=fun _=>True) rfl (fun _ hk=>hk) trivial (of_decide_eq_true (by first|(with_reducible assumption)|assumption)) (Nat.le_trans (Nat.mul_le_mul_right _ (of_decide_eq_true (by first|(with_reducible assumption)|assumption):ji3.toNat≤35184372088832)) (by omega)) (Below.refl _ _) (Nat.le_refl _) ?_;intro v129 w6 ho7 hb hg_ hnew_;clear hg_ hnew_;(first|rw [← Ny128.out] at ho7|(simp only [Int.reduceToNat] at ho7;rw [← Ny128.out] at ho7));have n0_:=Aside0.mk (Kd.R_lower ho7 (below_size (by repeat (first|(with_reducible first|exact HB.out|apply below_alloc|apply pw_below_drewN|apply below_drew1)|exact HB.out))));have n1_:=Aside0.mk (below_step (by repeat (first|(with_reducible first|exact HB.out|apply below_alloc|apply pw_below_drewN|apply below_drew1)|exact HB.out)) hb);clear HB;have HO130:=n0_;have HB:=n1_;clear n0_ n1_;clear hb ho7));try go_wp2_with (first|((with_reducible refine gate_dst (N:=15) rfl ?_);refine Kd.R_make (Kd.int .u64) _ 38 rfl (N:=15) rfl 46 _ _ rfl ji3 rfl rfl Tryz.underlying46 (.int .u64 0) 8 info38 rfl (by decide) (by omega) 0 (ok:=fun _=>True) (okp:=fun _=>True) rfl (fun _ hk=>hk) trivial (of_decide_eq_true (by first|(with_reducible assumption)|assumption)) (Nat.le_trans (Nat.mul_le_mul_right _ (of_decide_eq_true (by first|(with_reducible assumption)|assumption):ji3.toNat≤35184372088832)) (by omega)) (Below.refl _ _) (Nat.le_refl _) ?_;intro v129 w6 ho7 hb hg_ hnew_;clear hg_ hnew_;(first|rw [← Ny128.out] at ho7|(simp only [Int.reduceToNat] at ho7;rw [← Ny128.out] at ho7));have n0_:=Aside0.mk (Kd.R_lower ho7 (below_size (by repeat (first|(with_reducible first|exact HB.out|apply below_alloc|apply pw_below_drewN|apply below_drew1)|exact HB.out))));have n1_:=Aside0.mk (below_step (by repeat (first|(with_reducible first|exact HB.out|apply below_alloc|apply pw_below_drewN|apply below_drew1)|exact HB.out)) hb);clear HB;have HO130:=n0_;have HB:=n1_;clear n0_ n1_;clear hb ho7)))
      go_loopg [6] k (fun kq v6 w'=>∃ (x5_1:List Int) (x6_1:Int),v6=.int .i64 x6_1∧Aside0 (girderref00_product.l0 kq l0 l1 x5_1 x6_1=some r)∧Aside0 (kq≤k)∧Aside0 (Kd.R (Kd.int .u64) 38 w' w.heap.size (fun _=>True) v129 x5_1)∧Aside0 (Below w.heap.size w w'))
      case atStart=>exact ⟨(y128),(0),(by first|rfl|(simp;done)|(simp [*];done)),H',⟨Nat.le_refl _⟩,⟨by (with_reducible repeat (first|apply Kd.R_alloc|apply Kd.R_drewN|apply Kd.R_drew));exact HO130.out⟩,⟨by repeat (first|(with_reducible first|exact HB.out|apply below_alloc|apply pw_below_drewN|apply below_drew1)|exact HB.out)⟩⟩
      case round =>
        clear H'
        try clear c1
        try clear p2
        try clear c4
        try clear c4b0
        try clear c4b1
        try clear c5
        try clear c5b0
        try clear c5b1
        try clear p6
        obtain ⟨x5_1,x6_1,rfl,HA,HK1,HO_5,HB⟩:=hrel
        cases gk with
        | zero=>exact absurd HA.out (by simp [girderref00_product.l0])
        | succ k1 =>
          have H:=HA.out
          clear HA
          simp only [girderref00_product.l0] at H
          by_cases c8:x6_1 < (l0.length:Int)
          · rw [if_pos c8] at H
            have c8b0:decide (x6_1 < (l0.length:Int))=true:=decide_eq_true c8
            clear c8
            have H':=Aside0.mk H
            clear H
            go_wp2
            repeat (go_quiet (fail);try go_wp2)
            go_loopg [7,8] k1 (fun kq v7 v8 w'=>∃ (x5_2:List Int) (x7_2:Int) (x8_2:Int),v7=.int .u64 x7_2∧v8=.int .i64 x8_2∧Aside0 (girderref00_product.l1 kq l0 l1 x5_2 x6_1 x7_2 x8_2=some r)∧Aside0 (kq≤k1)∧Aside0 (Kd.R (Kd.int .u64) 38 w' w.heap.size (fun _=>True) v129 x5_2)∧Aside0 (Below w.heap.size w w'))
            case atStart=>exact ⟨(x5_1),(0),(0),(by first|rfl|(simp;done)|(simp [*];done)),(by first|rfl|(simp;done)|(simp [*];done)),H',⟨Nat.le_refl _⟩,⟨by (with_reducible repeat (first|apply Kd.R_alloc|apply Kd.R_drewN|apply Kd.R_drew));exact HO_5.out⟩,⟨by repeat (first|(with_reducible first|exact HB.out|apply below_alloc|apply pw_below_drewN|apply below_drew1)|exact HB.out)⟩⟩
            case round =>
              clear H'
              try clear c1
              try clear p2
              try clear c4
              try clear c4b0
              try clear c4b1
              try clear c5
              try clear c5b0
              try clear c5b1
              try clear p6
              try clear c8
              try clear c8b0
              try clear p2
              try clear p6
              obtain ⟨x5_2,x7_2,x8_2,rfl,rfl,HA,HK2,HO_5,HB⟩:=hrel
              cases gk with
              | zero=>exact absurd HA.out (by simp [girderref00_product.l1])
              | succ k2 =>
                have H:=HA.out
                clear HA
                simp only [girderref00_product.l1] at H
                by_cases c9:x8_2 < (l1.length:Int)
                · rw [if_pos c9] at H
                  have c9b0:decide (x8_2 < (l1.length:Int))=true:=decide_eq_true c9
                  clear c9
                  by_cases c10:0≤x6_1
                  · rw [if_pos c10] at H
                    have c10b0:decide (0≤x6_1)=true:=decide_eq_true c10
                    clear c10
                    by_cases c11:x6_1 < (l0.length:Int)
                    · rw [if_pos c11] at H
                      have c11b0:decide (x6_1 < (l0.length:Int))=true:=decide_eq_true c11
                      clear c11
                      by_cases c12:0≤x8_2
                      · rw [if_pos c12] at H
                        have c12b0:decide (0≤x8_2)=true:=decide_eq_true c12
                        clear c12
                        obtain ⟨ji13,hji13⟩:∃ j_:Int,(wrap64 (x6_1 + x8_2))=j_:=⟨_,rfl⟩
                        replace H:(if 0≤(ji13) then (if (ji13) < (x5_2.length:Int) then (girderref00_product.l1 k2 l0 l1 (x5_2.set ((ji13):Int).toNat (Int.tmod (IntKind.u64.wrap ((IntKind.u64.wrap ((IntKind.u64.wrap ((rd l0 x6_1) * (rd l1 x8_2))) + (rd x5_2 (ji13)))) + x7_2)) 4294967296)) x6_1 (IntKind.u64.wrap (Int.tdiv (IntKind.u64.wrap ((IntKind.u64.wrap ((IntKind.u64.wrap ((rd l0 x6_1) * (rd l1 x8_2))) + (rd x5_2 (ji13)))) + x7_2)) 4294967296)) (wrap64 (x8_2 + 1))) else (none)) else (none))=some r:=by first|(rw [hji13] at H;exact H)|(simp only [hji13] at H ⊢;exact H)
                        have hji13w:(IntKind.i64.wrap (x6_1 + x8_2))=ji13:=(i64_w _).trans hji13
                        by_cases c14:0≤(ji13)
                        · rw [if_pos c14] at H
                          have c14b0:decide (0≤(ji13))=true:=decide_eq_true c14
                          clear c14
                          by_cases c15:(ji13) < (x5_2.length:Int)
                          · rw [if_pos c15] at H
                            have c15b0:decide ((ji13) < (x5_2.length:Int))=true:=decide_eq_true c15
                            clear c15
                            obtain ⟨y137,hy137⟩:∃ y_:List Int,y_=(x5_2.set ((ji13):Int).toNat (Int.tmod (IntKind.u64.wrap ((IntKind.u64.wrap ((IntKind.u64.wrap ((rd l0 x6_1) * (rd l1 x8_2))) + (rd x5_2 (ji13)))) + x7_2)) 4294967296)):=⟨_,rfl⟩
                            replace H:(girderref00_product.l1 k2 l0 l1 y137 x6_1 (IntKind.u64.wrap (Int.tdiv (IntKind.u64.wrap ((IntKind.u64.wrap ((IntKind.u64.wrap ((rd l0 x6_1) * (rd l1 x8_2))) + (rd x5_2 (ji13)))) + x7_2)) 4294967296)) (wrap64 (x8_2 + 1)))=some r:=by first|(rw [hy137];with_reducible exact H)|(have H2_:=(Option.bind_some _ _).symm.trans H;rw [hy137];with_reducible exact H2_)|(have H2_:=(Option.bind_some _ _).symm.trans H;with_reducible exact H2_)|with_reducible exact H|(rw [hy137];exact H)|exact H
                            have Ny137:=Aside0.mk hy137
                            clear hy137
                            have H':=Aside0.mk H
                            clear H
                            have p134:0≤(x6_1:Int):=of_decide_eq_true (by first|(with_reducible assumption)|assumption)
                            have q134:x6_1 < (l0.length:Int):=of_decide_eq_true (by first|(with_reducible assumption)|assumption)
                            obtain ⟨ad134,e134,hx134_0⟩:=Kd.at_int HR0.out x6_1 p134 q134
                            cases e134
                            replace hx134_0:=(HB.out.cell (World.block_lt_of_cell? w _ hx134_0)).trans hx134_0
                            replace p134:=eq_true p134
                            replace q134:=eq_true q134
                            have p135:0≤(x8_2:Int):=of_decide_eq_true (by first|(with_reducible assumption)|assumption)
                            have q135:x8_2 < (l1.length:Int):=of_decide_eq_true (by first|(with_reducible assumption)|assumption)
                            obtain ⟨ad135,e135,hx135_0⟩:=Kd.at_int HR1.out x8_2 p135 q135
                            cases e135
                            replace hx135_0:=(HB.out.cell (World.block_lt_of_cell? w _ hx135_0)).trans hx135_0
                            replace p135:=eq_true p135
                            replace q135:=eq_true q135
                            obtain ⟨Ao17,co17,eo17⟩:=Kd.R_slice HO_5.out
                            subst eo17
                            have p136:0≤((ji13):Int):=of_decide_eq_true (by first|(with_reducible assumption)|assumption)
                            have q136:(ji13) < (x5_2.length:Int):=of_decide_eq_true (by first|(with_reducible assumption)|assumption)
                            obtain ⟨ad136,e136,hx136_0⟩:=Kd.at_int (Kd.R_reads' HO_5.out).2.2 (ji13) p136 q136
                            cases e136
                            replace p136:=eq_true p136
                            replace q136:=eq_true q136
                            have p16:0≤((ji13):Int):=of_decide_eq_true (by first|(with_reducible assumption)|assumption)
                            have q16:((ji13):Int) < ((x5_2.length:Int):Int):=of_decide_eq_true (by first|(with_reducible assumption)|assumption)
                            obtain ⟨go16,co16,eo16,gb16,gl16,cl16,HG16⟩:=Kd.R_form HO_5.out (by omega)
                            (first|cases eo16|(injection eo16 with ea_ en_ ec_;(first|subst ea_|(injection ea_ with ea_;subst ea_));subst ec_;clear en_))
                            have GB16:=Aside0.mk gb16
                            have GG16:=Aside0.mk HG16
                            clear gb16 gl16 HG16
                            (first|simp only [add_plain] at hx136_0|skip)
                            obtain ⟨hx16_0,hf16_0⟩:=Kd.R_celln 0 HO_5.out ((ji13):Int) p16 q16
                            replace p16:=eq_true p16
                            replace q16:=eq_true q16
                            have HP18:=Kd.R_putg HO_5.out ((ji13):Int) (Int.tmod (IntKind.u64.wrap ((IntKind.u64.wrap ((IntKind.u64.wrap ((rd l0 x6_1) * (rd l1 x8_2))) + (rd x5_2 (ji13)))) + x7_2)) 4294967296)
                            go_wp2_with (first|((with_reducible refine gate_store (t:=38) (p:=52) rfl ?_);(try (rw [drewN_self wr];generalize hq_:World.drewN wr _=wr;have n0_:=Aside0.mk (Kd.R_at hq_ HO_5.out);have n1_:=Aside0.mk (below_at hq_ HB.out);have n2_:=cell_at hq_ hx16_0;have n3_:=frz_at hq_ hf16_0;clear hq_ HO_5 HB hx16_0 hf16_0;have hx16_0:=n2_;have hf16_0:=n3_;clear n2_ n3_;have HO_5:=n0_;have HB:=n1_;clear n0_ n1_;(try (have HP18:=Kd.R_putg HO_5.out ((ji13):Int) (Int.tmod (IntKind.u64.wrap ((IntKind.u64.wrap ((IntKind.u64.wrap ((rd l0 x6_1) * (rd l1 x8_2))) + (rd x5_2 (ji13)))) + x7_2)) 4294967296)))));refine store_event (t:=38) (p:=52) (v:=?vo_w19) (w1:=(wr.setCell ⟨go16,((ji13):Int).toNat,none⟩ (.int .u64 (Int.tmod (IntKind.u64.wrap ((IntKind.u64.wrap ((IntKind.u64.wrap ((rd l0 x6_1) * (rd l1 x8_2))) + (rd x5_2 (ji13)))) + x7_2)) 4294967296)))) ?hg ?ho ?hn ?hr ?_;(case ho=>rfl);(case hg=>rfl);(case hn=>rfl);(case hr=>first|(go_simp;done)|(go_simp;rfl));intro w19 hw;have hg:wr.grownBy w19 (some go16):=(by rw [hw];exact HP18.2);have hp_:Kd.R (Kd.int .u64) 38 w19 w.heap.size (fun _=>True) (.slice (some ⟨go16,0,none⟩) x5_2.length co17) y137:=(by rw [hw,Ny137.out];exact HP18.1);clear HP18;have n0_:=Aside0.mk (hp_);have n1_:=Aside0.mk ((by rw [hw];exact below_set (HB.out) GB16.out:Below w.heap.size w w19));clear HO_5;clear HB;have HO_5:=n0_;have HB:=n1_;clear n0_ n1_;clear hg hw hp_))
                            repeat (go_quiet (first|((with_reducible refine gate_store (t:=38) (p:=52) rfl ?_);(try (rw [drewN_self wr];generalize hq_:World.drewN wr _=wr;have n0_:=Aside0.mk (Kd.R_at hq_ HO_5.out);have n1_:=Aside0.mk (below_at hq_ HB.out);have n2_:=cell_at hq_ hx16_0;have n3_:=frz_at hq_ hf16_0;clear hq_ HO_5 HB hx16_0 hf16_0;have hx16_0:=n2_;have hf16_0:=n3_;clear n2_ n3_;have HO_5:=n0_;have HB:=n1_;clear n0_ n1_;(try (have HP18:=Kd.R_putg HO_5.out ((ji13):Int) (Int.tmod (IntKind.u64.wrap ((IntKind.u64.wrap ((IntKind.u64.wrap ((rd l0 x6_1) * (rd l1 x8_2))) + (rd x5_2 (ji13)))) + x7_2)) 4294967296)))));refine store_event (t:=38) (p:=52) (v:=?vo_w19) (w1:=(wr.setCell ⟨go16,((ji13):Int).toNat,none⟩ (.int .u64 (Int.tmod (IntKind.u64.wrap ((IntKind.u64.wrap ((IntKind.u64.wrap ((rd l0 x6_1) * (rd l1 x8_2))) + (rd x5_2 (ji13)))) + x7_2)) 4294967296)))) ?hg ?ho ?hn ?hr ?_;(case ho=>rfl);(case hg=>rfl);(case hn=>rfl);(case hr=>first|(go_simp;done)|(go_simp;rfl));intro w19 hw;have hg:wr.grownBy w19 (some go16):=(by rw [hw];exact HP18.2);have hp_:Kd.R (Kd.int .u64) 38 w19 w.heap.size (fun _=>True) (.slice (some ⟨go16,0,none⟩) x5_2.length co17) y137:=(by rw [hw,Ny137.out];exact HP18.1);clear HP18;have n0_:=Aside0.mk (hp_);have n1_:=Aside0.mk ((by rw [hw];exact below_set (HB.out) GB16.out:Below w.heap.size w w19));clear HO_5;clear HB;have HO_5:=n0_;have HB:=n1_;clear n0_ n1_;clear hg hw hp_));try go_wp2_with (first|((with_reducible refine gate_store (t:=38) (p:=52) rfl ?_);(try (rw [drewN_self wr];generalize hq_:World.drewN wr _=wr;have n0_:=Aside0.mk (Kd.R_at hq_ HO_5.out);have n1_:=Aside0.mk (below_at hq_ HB.out);have n2_:=cell_at hq_ hx16_0;have n3_:=frz_at hq_ hf16_0;clear hq_ HO_5 HB hx16_0 hf16_0;have hx16_0:=n2_;have hf16_0:=n3_;clear n2_ n3_;have HO_5:=n0_;have HB:=n1_;clear n0_ n1_;(try (have HP18:=Kd.R_putg HO_5.out ((ji13):Int) (Int.tmod (IntKind.u64.wrap ((IntKind.u64.wrap ((IntKind.u64.wrap ((rd l0 x6_1) * (rd l1 x8_2))) + (rd x5_2 (ji13)))) + x7_2)) 4294967296)))));refine store_event (t:=38) (p:=52) (v:=?vo_w19) (w1:=(wr.setCell ⟨go16,((ji13):Int).toNat,none⟩ (.int .u64 (Int.tmod (IntKind.u64.wrap ((IntKind.u64.wrap ((IntKind.u64.wrap ((rd l0 x6_1) * (rd l1 x8_2))) + (rd x5_2 (ji13)))) + x7_2)) 4294967296)))) ?hg ?ho ?hn ?hr ?_;(case ho=>rfl);(case hg=>rfl);(case hn=>rfl);(case hr=>first|(go_simp;done)|(go_simp;rfl));intro w19 hw;have hg:wr.grownBy w19 (some go16):=(by rw [hw];exact HP18.2);have hp_:Kd.R (Kd.int .u64) 38 w19 w.heap.size (fun _=>True) (.slice (some ⟨go16,0,none⟩) x5_2.length co17) y137:=(by rw [hw,Ny137.out];exact HP18.1);clear HP18;have n0_:=Aside0.mk (hp_);have n1_:=Aside0.mk ((by rw [hw];exact below_set (HB.out) GB16.out:Below w.heap.size w w19));clear HO_5;clear HB;have HO_5:=n0_;have HB:=n1_;clear n0_ n1_;clear hg hw hp_)))
                            go_roundg k2
                            case measure=>have:=HK1.out;have:=HK2.out;omega
                            case rel=>exact ⟨(y137),(IntKind.u64.wrap (Int.tdiv (IntKind.u64.wrap ((IntKind.u64.wrap ((IntKind.u64.wrap ((rd l0 x6_1) * (rd l1 x8_2))) + (rd x5_2 (ji13)))) + x7_2)) 4294967296)),(wrap64 (x8_2 + 1)),(by first|rfl|(simp;done)|(simp only [← hji13] <;> (first|rfl|simp))|(simp [*];done)),(by first|rfl|(simp;done)|(simp [*];done)),H',⟨by have:=HK1.out;have:=HK2.out;omega⟩,⟨by (with_reducible repeat (first|apply Kd.R_alloc|apply Kd.R_drewN|apply Kd.R_drew));exact HO_5.out⟩,⟨by repeat (first|(with_reducible first|exact HB.out|apply below_alloc|apply pw_below_drewN|apply below_drew1)|exact HB.out)⟩⟩
                          · rw [if_neg c15] at H
                            exact absurd H (by simp)
                        · rw [if_neg c14] at H
                          exact absurd H (by simp)
                      · rw [if_neg c12] at H
                        exact absurd H (by simp)
                    · rw [if_neg c11] at H
                      exact absurd H (by simp)
                  · rw [if_neg c10] at H
                    exact absurd H (by simp)
                · rw [if_neg c9] at H
                  have c9b0:decide (x8_2 < (l1.length:Int))=false:=decide_eq_false c9
                  clear c9
                  obtain ⟨ji20,hji20⟩:∃ j_:Int,(wrap64 (x6_1 + (l1.length:Int)))=j_:=⟨_,rfl⟩
                  replace H:(if 0≤(ji20) then (if (ji20) < (x5_2.length:Int) then (girderref00_product.l0 k2 l0 l1 (x5_2.set ((ji20):Int).toNat x7_2) (wrap64 (x6_1 + 1))) else (none)) else (none))=some r:=by first|(rw [hji20] at H;exact H)|(simp only [hji20] at H ⊢;exact H)
                  have hji20w:(IntKind.i64.wrap (x6_1 + (l1.length:Int)))=ji20:=(i64_w _).trans hji20
                  by_cases c21:0≤(ji20)
                  · rw [if_pos c21] at H
                    have c21b0:decide (0≤(ji20))=true:=decide_eq_true c21
                    clear c21
                    by_cases c22:(ji20) < (x5_2.length:Int)
                    · rw [if_pos c22] at H
                      have c22b0:decide ((ji20) < (x5_2.length:Int))=true:=decide_eq_true c22
                      clear c22
                      obtain ⟨y138,hy138⟩:∃ y_:List Int,y_=(x5_2.set ((ji20):Int).toNat x7_2):=⟨_,rfl⟩
                      replace H:(girderref00_product.l0 k2 l0 l1 y138 (wrap64 (x6_1 + 1)))=some r:=by first|(rw [hy138];with_reducible exact H)|(have H2_:=(Option.bind_some _ _).symm.trans H;rw [hy138];with_reducible exact H2_)|(have H2_:=(Option.bind_some _ _).symm.trans H;with_reducible exact H2_)|with_reducible exact H|(rw [hy138];exact H)|exact H
                      have Ny138:=Aside0.mk hy138
                      clear hy138
                      have H':=Aside0.mk H
                      clear H
                      have p23:0≤((ji20):Int):=of_decide_eq_true (by first|(with_reducible assumption)|assumption)
                      have q23:((ji20):Int) < ((x5_2.length:Int):Int):=of_decide_eq_true (by first|(with_reducible assumption)|assumption)
                      obtain ⟨go23,co23,eo23,gb23,gl23,cl23,HG23⟩:=Kd.R_form HO_5.out (by omega)
                      (first|cases eo23|(injection eo23 with ea_ en_ ec_;(first|subst ea_|(injection ea_ with ea_;subst ea_));subst ec_;clear en_))
                      have GB23:=Aside0.mk gb23
                      have GG23:=Aside0.mk HG23
                      clear gb23 gl23 HG23
                      obtain ⟨hx23_0,hf23_0⟩:=Kd.R_celln 0 HO_5.out ((ji20):Int) p23 q23
                      replace p23:=eq_true p23
                      replace q23:=eq_true q23
                      have HP24:=Kd.R_putg HO_5.out ((ji20):Int) x7_2
                      go_wp2_with (first|((with_reducible refine gate_store (t:=38) (p:=61) rfl ?_);(try (rw [drewN_self wr];generalize hq_:World.drewN wr _=wr;have n0_:=Aside0.mk (Kd.R_at hq_ HO_5.out);have n1_:=Aside0.mk (below_at hq_ HB.out);have n2_:=cell_at hq_ hx23_0;have n3_:=frz_at hq_ hf23_0;clear hq_ HO_5 HB hx23_0 hf23_0;have hx23_0:=n2_;have hf23_0:=n3_;clear n2_ n3_;have HO_5:=n0_;have HB:=n1_;clear n0_ n1_;(try (have HP24:=Kd.R_putg HO_5.out ((ji20):Int) x7_2))));refine store_event (t:=38) (p:=61) (v:=?vo_w25) (w1:=(wr.setCell ⟨go23,((ji20):Int).toNat,none⟩ (.int .u64 x7_2))) ?hg ?ho ?hn ?hr ?_;(case ho=>rfl);(case hg=>rfl);(case hn=>rfl);(case hr=>first|(go_simp;done)|(go_simp;rfl));intro w25 hw;have hg:wr.grownBy w25 (some go23):=(by rw [hw];exact HP24.2);have hp_:Kd.R (Kd.int .u64) 38 w25 w.heap.size (fun _=>True) (.slice (some ⟨go23,0,none⟩) x5_2.length co23) y138:=(by rw [hw,Ny138.out];exact HP24.1);clear HP24;have n0_:=Aside0.mk (hp_);have n1_:=Aside0.mk ((by rw [hw];exact below_set (HB.out) GB23.out:Below w.heap.size w w25));clear HO_5;clear HB;have HO_5:=n0_;have HB:=n1_;clear n0_ n1_;clear hg hw hp_))
                      repeat (go_quiet (first|((with_reducible refine gate_store (t:=38) (p:=61) rfl ?_);(try (rw [drewN_self wr];generalize hq_:World.drewN wr _=wr;have n0_:=Aside0.mk (Kd.R_at hq_ HO_5.out);have n1_:=Aside0.mk (below_at hq_ HB.out);have n2_:=cell_at hq_ hx23_0;have n3_:=frz_at hq_ hf23_0;clear hq_ HO_5 HB hx23_0 hf23_0;have hx23_0:=n2_;have hf23_0:=n3_;clear n2_ n3_;have HO_5:=n0_;have HB:=n1_;clear n0_ n1_;(try (have HP24:=Kd.R_putg HO_5.out ((ji20):Int) x7_2))));refine store_event (t:=38) (p:=61) (v:=?vo_w25) (w1:=(wr.setCell ⟨go23,((ji20):Int).toNat,none⟩ (.int .u64 x7_2))) ?hg ?ho ?hn ?hr ?_;(case ho=>rfl);(case hg=>rfl);(case hn=>rfl);(case hr=>first|(go_simp;done)|(go_simp;rfl));intro w25 hw;have hg:wr.grownBy w25 (some go23):=(by rw [hw];exact HP24.2);have hp_:Kd.R (Kd.int .u64) 38 w25 w.heap.size (fun _=>True) (.slice (some ⟨go23,0,none⟩) x5_2.length co23) y138:=(by rw [hw,Ny138.out];exact HP24.1);clear HP24;have n0_:=Aside0.mk (hp_);have n1_:=Aside0.mk ((by rw [hw];exact below_set (HB.out) GB23.out:Below w.heap.size w w25));clear HO_5;clear HB;have HO_5:=n0_;have HB:=n1_;clear n0_ n1_;clear hg hw hp_));try go_wp2_with (first|((with_reducible refine gate_store (t:=38) (p:=61) rfl ?_);(try (rw [drewN_self wr];generalize hq_:World.drewN wr _=wr;have n0_:=Aside0.mk (Kd.R_at hq_ HO_5.out);have n1_:=Aside0.mk (below_at hq_ HB.out);have n2_:=cell_at hq_ hx23_0;have n3_:=frz_at hq_ hf23_0;clear hq_ HO_5 HB hx23_0 hf23_0;have hx23_0:=n2_;have hf23_0:=n3_;clear n2_ n3_;have HO_5:=n0_;have HB:=n1_;clear n0_ n1_;(try (have HP24:=Kd.R_putg HO_5.out ((ji20):Int) x7_2))));refine store_event (t:=38) (p:=61) (v:=?vo_w25) (w1:=(wr.setCell ⟨go23,((ji20):Int).toNat,none⟩ (.int .u64 x7_2))) ?hg ?ho ?hn ?hr ?_;(case ho=>rfl);(case hg=>rfl);(case hn=>rfl);(case hr=>first|(go_simp;done)|(go_simp;rfl));intro w25 hw;have hg:wr.grownBy w25 (some go23):=(by rw [hw];exact HP24.2);have hp_:Kd.R (Kd.int .u64) 38 w25 w.heap.size (fun _=>True) (.slice (some ⟨go23,0,none⟩) x5_2.length co23) y138:=(by rw [hw,Ny138.out];exact HP24.1);clear HP24;have n0_:=Aside0.mk (hp_);have n1_:=Aside0.mk ((by rw [hw];exact below_set (HB.out) GB23.out:Below w.heap.size w w25));clear HO_5;clear HB;have HO_5:=n0_;have HB:=n1_;clear n0_ n1_;clear hg hw hp_)))
                      go_roundg k2
                      case measure=>have:=HK1.out;have:=HK2.out;omega
                      case rel=>exact ⟨(y138),(wrap64 (x6_1 + 1)),(by first|rfl|(simp;done)|(simp [*];done)),H',⟨by have:=HK1.out;have:=HK2.out;omega⟩,⟨by (with_reducible repeat (first|apply Kd.R_alloc|apply Kd.R_drewN|apply Kd.R_drew));exact HO_5.out⟩,⟨by repeat (first|(with_reducible first|exact HB.out|apply below_alloc|apply pw_below_drewN|apply below_drew1)|exact HB.out)⟩⟩
                    · rw [if_neg c22] at H
                      exact absurd H (by simp)
                  · rw [if_neg c21] at H
                    exact absurd H (by simp)
          · rw [if_neg c8] at H
            have c8b0:decide (x6_1 < (l0.length:Int))=false:=decide_eq_false c8
            clear c8
            replace H:=Option.bind_eq_some_iff.mp H
            obtain ⟨t131,A260,H⟩:=H
            replace H:(some t131)=some r:=H
            have A26:=Aside0.mk A260
            clear A260
            obtain rfl:=Option.some.inj H
            obtain ⟨Ao27,co27,eo27⟩:=Kd.R_slice HO_5.out
            subst eo27
            go_wp2_with (first|(go_at_call 134;(with_reducible refine (girderref00_low.calls k1 (fun k_=>some k_=(.slice Ao27 x5_1.length co27:Value).ownBlock) (.slice Ao27 x5_1.length co27) x5_1 t131 w _ ?side1 ?side2 A26.out).mono ?_);(case side1=>repeat (first|(with_reducible first|exact HB.out|apply below_alloc|apply pw_below_drewN|apply below_drew1)|exact HB.out));(case side2=>exact Kd.R_tight rfl HO_5.out);rintro e w28 ⟨v132,rfl,ho0,hb,hkp⟩;have n0_:=Aside0.mk (Kd.R_mono (ok':=fun k_=>True) ho0 (fun k_ hk_=>trivial));have n1_:=Aside0.mk (hb);clear HB;clear HO_5;have HO133:=n0_;have HB:=n1_;clear n0_ n1_;(try clear hb);(try clear hkp);(try clear ho0)))
            repeat (go_quiet (first|(go_at_call 134;(with_reducible refine (girderref00_low.calls k1 (fun k_=>some k_=(.slice Ao27 x5_1.length co27:Value).ownBlock) (.slice Ao27 x5_1.length co27) x5_1 t131 w _ ?side1 ?side2 A26.out).mono ?_);(case side1=>repeat (first|(with_reducible first|exact HB.out|apply below_alloc|apply pw_below_drewN|apply below_drew1)|exact HB.out));(case side2=>exact Kd.R_tight rfl HO_5.out);rintro e w28 ⟨v132,rfl,ho0,hb,hkp⟩;have n0_:=Aside0.mk (Kd.R_mono (ok':=fun k_=>True) ho0 (fun k_ hk_=>trivial));have n1_:=Aside0.mk (hb);clear HB;clear HO_5;have HO133:=n0_;have HB:=n1_;clear n0_ n1_;(try clear hb);(try clear hkp);(try clear ho0)));try go_wp2_with (first|(go_at_call 134;(with_reducible refine (girderref00_low.calls k1 (fun k_=>some k_=(.slice Ao27 x5_1.length co27:Value).ownBlock) (.slice Ao27 x5_1.length co27) x5_1 t131 w _ ?side1 ?side2 A26.out).mono ?_);(case side1=>repeat (first|(with_reducible first|exact HB.out|apply below_alloc|apply pw_below_drewN|apply below_drew1)|exact HB.out));(case side2=>exact Kd.R_tight rfl HO_5.out);rintro e w28 ⟨v132,rfl,ho0,hb,hkp⟩;have n0_:=Aside0.mk (Kd.R_mono (ok':=fun k_=>True) ho0 (fun k_ hk_=>trivial));have n1_:=Aside0.mk (hb);clear HB;clear HO_5;have HO133:=n0_;have HB:=n1_;clear n0_ n1_;(try clear hb);(try clear hkp);(try clear ho0))))
            go_ret
            exact ⟨_,by first|rfl|(simp [errW_none,errW_some] <;> rfl)|(simp only [← hji3];first|rfl|(simp [errW_none,errW_some] <;> rfl))|(simp [*,errW_none,errW_some] <;> rfl),by (with_reducible repeat (first|apply Kd.R_alloc|apply Kd.R_drewN|apply Kd.R_drew));exact HO133.out,by repeat (first|(with_reducible first|exact HB.out|apply below_alloc|apply pw_below_drewN|apply below_drew1)|exact HB.out)⟩
    · rw [if_neg c5] at H
      exact absurd H (by simp)
  · rw [if_neg c4] at H
    exact absurd H (by simp)
end Go.Proofs.YtmndoelimincdaaGreatDoor.XRf
