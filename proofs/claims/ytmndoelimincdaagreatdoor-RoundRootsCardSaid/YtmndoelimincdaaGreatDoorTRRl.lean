import Derived.Test.YtmndoelimincdaaGreatDoorTRRk
import Derived.Test.YtmndoelimincdaaGreatDoorTRRh
import Derived.Deep.DeepCutAuto
import Derived.Deep.LoopGhost
import Derived.Deep.CutBlock
import Derived.Test.YtmndoelimincdaaGreatDoorTRRg
import Derived.Test.YtmndoelimincdaaGreatDoorTRRa
namespace Go.Proofs.YtmndoelimincdaaGreatDoor
open Go Go.RowKit Nv
open Go.Proofs.YtmndoelimincdaaGreatDoorW.PrintWords (Kd)
open XBn
set_option maxRecDepth 100000
set_option linter.unusedSimpArgs false
set_option maxHeartbeats 4000000 in
theorem dround_t {W:World} (ad:Addr) (c:Nat) (h1c:1≤c) (hC:Kd.C (Kd.int .u64) W (some ad) 1 [9007199254740993]) (hc:W.cell? ad=some (.int .u64 9007199254740993))
    (hT:∀ w,Below W.heap.size W w→Calls Tryz.prog 122 #[.int .u64 4503599627370497] w fun e w'=>e=.returned (.int .i64 0)∧w'=w)
    (hL:∀ w,Calls Tryz.prog 114 #[.int .u64 9007199254740993] w fun e w'=>e=.returned (.int .i64 54)∧w'=w)
    (hL2:∀ w,Calls Tryz.prog 114 #[.int .u64 4503599627370497] w fun e w'=>e=.returned (.int .i64 53)∧w'=w)
    (hJ:∀ w,Calls Tryz.prog 123 #[.agg #[.bool false,.int .u64 4503599627370497,.int .i64 1]] w fun e w'=>e=.returned (.tuple #[.float .f64 4845873199050653697,.bool true])∧Below w.heap.size w w') :
    Calls Tryz.prog 46 #[.agg #[.bool false,.slice (some ad) 1 c,.int .i64 0],.int .i8 2] W fun e w'=>e=.returned (.tuple #[.float .f64 4845873199050653697,.int .i64 0])∧Below W.heap.size W w':=by
  have RC:Hid (∀ w,Below W.heap.size W w→Calls Tryz.prog 76 #[.agg #[.bool false,.slice (some ad) 1 c,.int .i64 0]] w fun e w'=>e=.returned (.bool true)∧Below w.heap.size w w'):=Lib.hid (fun w h=>(dyad_Right.calls false (some ad) c [9007199254740993] 0 true w (Kd.C_below hC h) h1c (by decide +kernel)).mono fun e w' ⟨h1,h2⟩=>⟨h1,by first|exact h2.below|exact h2⟩)
  have WC:Hid (∀ w,Below W.heap.size W w→Calls Tryz.prog 77 #[.agg #[.bool false,.slice (some ad) 1 c,.int .i64 0]] w fun e w'=>∃ b,e=.returned (pt b)∧w.heap.size≤b∧IntAt w' b 9007199254740993∧Below w.heap.size w w'):=Lib.hid (fun w h=>by
    have:=dwhole_c false (some ad) c [9007199254740993] 0 (Kd.C_below hC h) (fun p hp=>by rw [List.mem_singleton.1 hp];decide) (by decide)
    exact this)
  have TC:Hid (∀ w,Below W.heap.size W w→Calls Tryz.prog 79 #[.agg #[.bool false,.slice (some ad) 1 c,.int .i64 0]] w fun e w'=>e=.returned (.int .i64 54)∧Below w.heap.size w w'):=Lib.hid (fun w h=>dtop_one false ad c 9007199254740993 0 54 (kb_cX h hc) (by decide) (by decide) (by decide) (by decide) hL)
  have FC:Hid (∀ w,Below W.heap.size W w→Calls Tryz.prog 88 #[.bool false,.int .u64 4503599627370497,.int .i64 1,.int .i8 2] w fun e w'=>e=.returned (.float .f64 4845873199050653697)∧Below w.heap.size w w'):=Lib.hid (fun w h=>dfloat_odd false 4503599627370497 4845873199050653697 1 53 2 (by decide) (by decide) (by decide) (by decide) (by decide) (fun w' h'=>hT w' (bl_then h h')) hL2 hJ)
  have AC:Hid (∀ w,Calls Tryz.prog 87 #[.int .i8 2,.bool false,.int .i64 0,.bool false] w fun e w'=>e=.returned (.bool true)∧Below w.heap.size w w'):=Lib.hid (fun w=>(dyad_away.calls 2 false 0 false true w (by decide +kernel)).mono fun e w' ⟨h1,h2⟩=>⟨h1,by first|exact h2.below|exact h2⟩)
  have B0:=Lib.hid (bl_alloc (Below.refl W.heap.size W) (.cells #[.bool false,.slice (some ad) 1 c,.int .i64 0] 48))
  have K0:=Lib.hid (kb_new (w:=W) (o:=.cells #[.bool false,.slice (some ad) 1 c,.int .i64 0] 48) (Below.refl _ _))
  have d0:=kb_cell K0.out (i:=0) rfl
  have d1:=kb_cell K0.out (i:=1) rfl
  have d2:=kb_cell K0.out (i:=2) rfl
  clear hC hc hT hL hL2 hJ h1c
  go_enter Tryz.func46,Tryz.ntmps46
  go_upto_region 6 with (first
    | (go_at_call 76;(with_reducible refine (RC.out _ B0.out).mono ?_);rintro e w1 ⟨rfl,hb⟩;have B0:=Lib.hid (bl_then B0.out hb);have K0:=Lib.hid (kb_keep hb K0.out);clear d0 d1 d2;have d0:=kb_cell K0.out (i:=0) rfl;have d1:=kb_cell K0.out (i:=1) rfl;have d2:=kb_cell K0.out (i:=2) rfl;clear hb)
    | (go_at_call 77;(with_reducible refine (WC.out _ B0.out).mono ?_);rintro e w2 ⟨b,rfl,hbs,hI,hb⟩;have I2:=Lib.hid hI;have NB:=Lib.hid (Nat.lt_of_lt_of_le (kb_lt K0.out) hbs);have B2:=Lib.hid (bl_then B0.out hb);have K2:=Lib.hid (kb_keep hb K0.out);clear hb hI hbs))
  have sV:Sm ((9007199254740993:Int).natAbs:Int):=sm_pw (x:=9007199254740993) (k:=1) (by decide) (by decide)
  have sQ:Sm ((4503599627370496:Int).natAbs:Int):=sm_pw (x:=4503599627370496) (k:=1) (by decide) (by decide)
  have sL:Sm ((9007199254740992:Int).natAbs:Int):=sm_pw (x:=9007199254740992) (k:=1) (by decide) (by decide)
  have s1:Sm ((1:Int).natAbs:Int):=sm_pw (x:=1) (k:=1) (by decide) (by decide)
  have cA:Hid (∀ w,IntAt w b 9007199254740993→Calls Tryz.prog 78 #[pt b,pt b] w (GPost b 9007199254740993 w)):=Lib.hid (fun w h=>iabs_c h h sV)
  have cR:Hid (∀ w z u,IntAt w z u→IntAt w b 9007199254740993→Calls Tryz.prog 82 #[pt z,pt b,.int .u64 1] w (GPost z 4503599627370496 w)):=Lib.hid (fun w z u h1 h2=>rsh_c h1 h2 sV (by decide) 1 (by decide))
  have cU:Hid (∀ w z,IntAt w z 4503599627370496→Calls Tryz.prog 81 #[pt z] w fun e w'=>e=.returned (.int .u64 4503599627370496)∧w=w'):=Lib.hid (fun w z h=>u64_c h)
  have cL:Hid (∀ w z,IntAt w z 4503599627370496→Calls Tryz.prog 80 #[pt z,pt z,.int .u64 1] w (GPost z 9007199254740992 w)):=Lib.hid (fun w z h=>lsh_c h h 1 (by decide) sQ)
  have cS:Hid (∀ w y,IntAt w b 9007199254740993→IntAt w y 9007199254740992→Calls Tryz.prog 83 #[pt b,pt b,pt y] w (GPost b 1 w)):=Lib.hid (fun w y h1 h2=>sub_c h1 h1 h2 sV sL)
  have cN:Hid (∀ w,Calls Tryz.prog 85 #[.int .i64 1] w (NPost 1 w)):=Lib.hid (fun w=>newInt_c 1 (by decide) (by decide) w)
  have cM:Hid (∀ w z u y,IntAt w z u→IntAt w y 1→Calls Tryz.prog 80 #[pt z,pt y,.int .u64 0] w (GPost z 1 w)):=Lib.hid (fun w z u y h1 h2=>lsh_c h1 h2 0 (by decide) s1)
  have cC:Hid (∀ w y,IntAt w b 1→IntAt w y 1→Calls Tryz.prog 84 #[pt b,pt y] w fun e w'=>e=.returned (.int .i64 0)∧Below w.heap.size w w'):=Lib.hid (fun w y h1 h2=>icmp_c h1 h2 s1)
  have cG:Hid (∀ w,IntAt w b 1→Calls Tryz.prog 86 #[pt b] w fun e w'=>e=.returned (.int .i64 1)∧w=w'):=Lib.hid (fun w h=>isign_c h)
  clear sV sQ sL s1
  go_upto_region 12 with (first
    | (go_at_call 78;(with_reducible refine (cA.out _ I2.out).mono ?_);rintro e w3 ⟨rfl,hI,hz⟩;have I3:=Lib.hid hI;have B3:=Lib.hid (Bz.below B2.out hz B2.out.size (Nat.le_of_lt NB.out));have K3:=Lib.hid ((hz.block W.heap.size (kb_lt K2.out) (Nat.ne_of_lt NB.out)).trans K2.out);have d0:=kb_cell K3.out (i:=0) rfl;have d1:=kb_cell K3.out (i:=1) rfl;have d2:=kb_cell K3.out (i:=2) rfl;clear hI hz)
    | (go_at_call 79;(with_reducible refine (TC.out _ B3.out).mono ?_);rintro e w4 ⟨rfl,hb⟩;have I4:=Lib.hid (I3.out.below hb);have B4:=Lib.hid (bl_then B3.out hb);have K4:=Lib.hid (kb_keep hb K3.out);have d0:=kb_cell K4.out (i:=0) rfl;have d1:=kb_cell K4.out (i:=1) rfl;have d2:=kb_cell K4.out (i:=2) rfl;clear hb))
  simp only [show max (1:Int) (-1074)=1 from rfl]
  go_upto_region 13 with (first
    | (go_at_call 82;(with_reducible refine (cR.out _ _ _ (IntAt.zero w4) (I4.out.alloc _)).mono ?_);rintro e w5 ⟨rfl,hI,hz⟩;have Q5:=Lib.hid hI;have I5:=Lib.hid ((I4.out.alloc _).keep (IntAt.zero w4) (Nat.ne_of_lt I4.out.lt) hz);have NQ:=Lib.hid I4.out.lt;have NW:=Lib.hid (kb_lt K4.out);have B5:=Lib.hid (Bz.below (bl_alloc B4.out _) hz (Nat.le_trans B4.out.size (by simp)) B4.out.size);have K5:=Lib.hid ((hz.block W.heap.size (kb_lt (kb_alloc (o':=nilI) K4.out)) (Nat.ne_of_lt (kb_lt K4.out))).trans (kb_alloc (o':=nilI) K4.out));clear hI hz))
  obtain ⟨q,hq⟩:∃ q,w4.heap.size=q:=⟨_,rfl⟩
  rw [hq] at Q5 NQ NW
  simp only [hq]
  clear hq
  go_upto_region 15 with (first
    | (go_at_call 81;(with_reducible refine (cU.out _ _ Q5.out).mono ?_);rintro e w6 ⟨rfl,rfl⟩)
    | (go_at_call 80;(with_reducible refine (cL.out _ _ Q5.out).mono ?_);rintro e w6 ⟨rfl,hI,hz⟩;have Q6:=Lib.hid hI;have I6:=Lib.hid (I5.out.keep Q5.out (Nat.ne_of_lt NQ.out) hz);have B6:=Lib.hid (Bz.below B5.out hz B5.out.size (Nat.le_of_lt NW.out));have K6:=Lib.hid ((hz.block W.heap.size (kb_lt K5.out) (Nat.ne_of_lt NW.out)).trans K5.out);clear hI hz)
    | (go_at_call 83;(with_reducible refine (cS.out _ _ I6.out Q6.out).mono ?_);rintro e w7 ⟨rfl,hI,hz⟩;have I7:=Lib.hid hI;have B7:=Lib.hid (Bz.below B6.out hz B6.out.size (Nat.le_of_lt NB.out));have K7:=Lib.hid ((hz.block W.heap.size (kb_lt K6.out) (Nat.ne_of_lt NB.out)).trans K6.out);clear hI hz))
  have R7:=Lib.hid (IntAt.zero w7)
  have NR:=Lib.hid I7.out.lt
  have NZ:=Lib.hid (kb_lt K7.out)
  have I7:=Lib.hid (I7.out.alloc nilI)
  have B7:=Lib.hid (bl_alloc B7.out nilI)
  have K7:=Lib.hid (kb_alloc (o':=nilI) K7.out)
  go_upto_region 16 with (first
    | (go_at_call 85;(with_reducible refine (cN.out _).mono ?_);rintro e w8 ⟨b1,rfl,hbs,hI,hb⟩;have O8:=Lib.hid hI;have I8:=Lib.hid (I7.out.below hb);have R8:=Lib.hid (R7.out.below hb);have B8:=Lib.hid (bl_then B7.out hb);have K8:=Lib.hid (kb_keep hb K7.out);have NS:=Lib.hid (Nat.lt_of_lt_of_le R7.out.lt hbs);clear hI hb hbs)
    | (go_at_call 80;(with_reducible refine (cM.out _ _ _ _ R8.out O8.out).mono ?_);rintro e w9 ⟨rfl,hI,hz⟩;have O9:=Lib.hid hI;have I9:=Lib.hid (I8.out.keep R8.out (Nat.ne_of_lt NR.out) hz);have B9:=Lib.hid (Bz.below B8.out hz B8.out.size (Nat.le_of_lt NZ.out));have K9:=Lib.hid ((hz.block W.heap.size (kb_lt K8.out) (Nat.ne_of_lt NZ.out)).trans K8.out);clear hI hz)
    | (go_at_call 84;(with_reducible refine (cC.out _ _ I9.out O9.out).mono ?_);rintro e wA ⟨rfl,hb⟩;have IA:=Lib.hid (I9.out.below hb);have BA:=Lib.hid (bl_then B9.out hb);have KA:=Lib.hid (kb_keep hb K9.out);have d0:=kb_cell KA.out (i:=0) rfl;have d1:=kb_cell KA.out (i:=1) rfl;have d2:=kb_cell KA.out (i:=2) rfl;clear hb))
  go_wp2_with (first
    | (go_at_call 86;(with_reducible refine (cG.out _ IA.out).mono ?_);rintro e wB ⟨rfl,rfl⟩)
    | (go_at_call 87;rw [show (Go.bits BinOp.and IntKind.u64 4503599627370496 1 == 1)=false from by decide +kernel];(with_reducible refine (AC.out _).mono ?_);rintro e wC ⟨rfl,hb⟩;have BC:=Lib.hid (bl_then BA.out hb);have KC:=Lib.hid (kb_keep hb KA.out);have d0:=kb_cell KC.out (i:=0) rfl;have d1:=kb_cell KC.out (i:=1) rfl;have d2:=kb_cell KC.out (i:=2) rfl;clear hb)
    | (go_at_call 88;(with_reducible refine (FC.out _ BC.out).mono ?_);rintro e wD ⟨rfl,hb⟩;have BD:=Lib.hid (bl_then BC.out hb);clear hb))
  go_ret2
  exact ⟨rfl,BD.out⟩
end Go.Proofs.YtmndoelimincdaaGreatDoor
namespace Go.Proofs.YtmndoelimincdaaGreatDoor
open Go Go.RowKit GFl
set_option maxRecDepth 100000
attribute [local go_sem] run_f64frombits run_neg_f64
def fin (x:Nat):Bool:=decide (rg x < 9218868437227405312)
theorem fin_t {x:Nat} (h:rg x < 9218868437227405312):fin x=true:=by unfold fin;simp [h]
theorem fin_f {x:Nat} (h:9218868437227405312≤rg x):fin x=false:=by unfold fin;simp;omega
theorem fin_isn {x:Nat} (h:fin x=true):isn x=false:=by unfold fin at h;rw [isn_eq];simp at h ⊢;omega
def sgI (x:Nat):Int:=if isn x then 0 else if 0 < plc x then 1 else if plc x < 0 then -1 else 0
theorem gt0 {x:Nat} (hx:W64 x):(FloatKind.f64.format.order x 0 == some .gt)=(!isn x && decide (0 < plc x)):=by
  rw [t_gt hx (w_const (by decide)),isn0,plc0];simp
theorem lt0 {x:Nat} (hx:W64 x):(FloatKind.f64.format.order x 0 == some .lt)=(!isn x && decide (plc x < 0)):=by
  rw [t_lt hx (w_const (by decide)),isn0,plc0];simp
theorem eq0 {x:Nat} (hx:W64 x):(FloatKind.f64.format.order x 0 == some .eq)=(!isn x && decide (plc x=0)):=by
  rw [t_eq hx (w_const (by decide)),isn0,plc0];simp
theorem le0 {x:Nat} (hx:W64 x):(FloatKind.f64.format.order x 0 == some .lt || FloatKind.f64.format.order x 0 == some .eq)=(!isn x && decide (plc x≤0)):=by
  rw [t_le hx (w_const (by decide)),isn0,plc0];simp
theorem sign_c (x:Nat) (hx:W64 x) (w:World):Calls Tryz.prog 34 #[.float .f64 x] w fun e w'=>e=.returned (.int .i64 (sgI x))∧w=w':=by
  have k1:=gt0 hx
  have k2:=lt0 hx
  unfold sgI
  cases hn:isn x <;> rw [hn] at k1 k2
  · rcases Int.lt_trichotomy (plc x) 0 with h|h|h
    · rw [if_neg (by simp),if_neg (by omega),if_pos h]
      rw [decide_eq_false (by omega)] at k1
      rw [decide_eq_true h] at k2
      clear h
      go_enter Tryz.func34,Tryz.ntmps34
      go_wp2
      go_ret
      exact ⟨rfl,rfl⟩
    · rw [if_neg (by simp),if_neg (by omega),if_neg (by omega)]
      rw [decide_eq_false (by omega)] at k1 k2
      clear h
      go_enter Tryz.func34,Tryz.ntmps34
      go_wp2
      go_ret
      exact ⟨rfl,rfl⟩
    · rw [if_neg (by simp),if_pos h]
      rw [decide_eq_true h] at k1
      clear h k2
      go_enter Tryz.func34,Tryz.ntmps34
      go_wp2
      go_ret
      exact ⟨rfl,rfl⟩
  · rw [if_pos rfl]
    go_enter Tryz.func34,Tryz.ntmps34
    go_wp2
    go_ret
    exact ⟨rfl,rfl⟩
def stepW (x:Nat) (up:Bool):Nat:=if rg x=0 then (if up then 1 else 9223372036854775809) else if up=!neg x then x + 1 else x - 1
theorem step_c (x:Nat) (up:Bool) (hx:W64 x) (hn:rg x≤9218868437227405312) (w:World):Calls Tryz.prog 66 #[.float .f64 x,.bool up] w fun e w'=>e=.returned (.float .f64 (stepW x up))∧w=w':=by
  have k1:=eq0 hx
  have k2:=gt0 hx
  have hl:=hx.lt
  have hr:=rg_eq x
  have hg:=neg_eq x
  have hnx:isn x=false:=by rw [isn_eq];simp;omega
  have hp:=plc_eq x
  rw [hnx] at k1 k2
  simp only [Bool.not_false,Bool.true_and] at k1 k2
  have K1:=Lib.hid k1
  have K2:=Lib.hid k2
  have HR:=Lib.hid hr
  have HG:=Lib.hid hg
  have HP:=Lib.hid hp
  have HL:=Lib.hid hl
  obtain ⟨X,hX⟩:∃ X:Int,(x:Int)=X:=⟨_,rfl⟩
  have fb:∀ w,(callFunc 28 #[.float .f64 x]).run Tryz.prog w=.ok (.value (.int .u64 X)) w:=fun w=>by rw [← hX];exact run_f64bits x w
  have HX:=Lib.hid hX
  clear k1 k2 hr hg hnx hp hl hX
  go_enter Tryz.func66,Tryz.ntmps66
  go_upto_block 0 with (fail)
  go_cut [5] (fun v5 wx=>v5=.int .u64 (stepW x up:Nat)∧w=wx)
  case first =>
    by_cases h0:rg x=0
    · have hz:plc x=0:=plc_zero.2 h0
      have k1:=K1.out
      rw [decide_eq_true hz] at k1
      have st:stepW x up=if up then 1 else 9223372036854775809:=by unfold stepW;rw [if_pos h0]
      have ST:=Lib.hid st
      clear h0 hz st
      cases up
      all_goals
        go_wp2
        go_meet
        exact ⟨by rw [ST.out];rfl,rfl⟩
    · have hz:¬ plc x=0:=fun h=>h0 (plc_zero.1 h)
      have k1:=K1.out
      rw [decide_eq_false hz] at k1
      have hr:=HR.out
      have hl:=HL.out
      have h1:1≤x:=Nat.pos_of_ne_zero (fun h=>h0 (by rw [h];decide))
      have h2:x < 18446744073709551615:=by omega
      have ws:IntKind.u64.wrap ((x:Int) - 1)=((x - 1:Nat):Int):=by rw [IntKind.wrap_u64];omega
      have wa:IntKind.u64.wrap ((x:Int) + 1)=((x + 1:Nat):Int):=by rw [IntKind.wrap_u64];omega
      rw [HX.out] at ws wa
      have h3:(decide (0 < plc x))=!neg x:=by
        rw [HP.out];have hz':=mt plc_zero.2 hz;cases neg x <;> simp <;> omega
      have k2:=K2.out
      rw [h3] at k2
      have st:stepW x up=if up=!neg x then x + 1 else x - 1:=by unfold stepW;rw [if_neg h0]
      have ST:=Lib.hid st
      clear h0 hz hr hl h1 h2 h3 st
      cases hs:neg x <;> rw [hs] at k2
      all_goals
        have K2:=Lib.hid k2
        have HS:=Lib.hid hs
        have WS:=Lib.hid ws
        have WA:=Lib.hid wa
        clear k2 hs ws wa
        cases up
        all_goals
          go_wp2
          all_goals first|exact absurd (K2.out.symm.trans (by assumption:_=false)) (by decide)|exact absurd (K2.out.symm.trans (by assumption:_=true)) (by decide)|exact absurd ((congrArg Bool.not K2.out).symm.trans (by assumption:_=false)) (by decide)|exact absurd ((congrArg Bool.not K2.out).symm.trans (by assumption:_=true)) (by decide)|(go_meet;exact ⟨by rw [ST.out,HS.out];first|(rw [WS.out,if_neg (by decide)])|(rw [WA.out,if_pos (by decide)]),rfl⟩)
  case rest =>
    obtain ⟨rfl,rfl⟩:=hcut
    go_wp2
    go_ret
    exact ⟨ret_float (Int.toNat_natCast _),rfl⟩
attribute [local go_sem] run_f64bits
def modeW (x:Nat) (m:Int):Int:=if m=3 then (if neg x then 2 else 1) else m
def settleW (x:Nat) (off m:Int):Nat :=
  if rg x=9218868437227405312 then
    if (neg x=false∧modeW x m=1) ∨ (neg x=true∧modeW x m=2) then wd (neg x) 9218868437227405311 else x
  else if (off < 0∧modeW x m=1) ∨ (0 < off∧modeW x m=2) then stepW x (decide (0 < off)) else x
theorem settle_c (x:Nat) (off m:Int) (hx:W64 x) (hn:rg x≤9218868437227405312) (w:World) :
    Calls Tryz.prog 33 #[.float .f64 x,.int .i64 off,.int .i8 m] w fun e w'=>e=.returned (.float .f64 (settleW x off m))∧w=w':=by
  have sg:∀ w,Calls Tryz.prog 48 #[.float .f64 x] w fun e w'=>e=.returned (.bool (neg x))∧w=w':=fun w=>(signbit_c x hx w).mono fun _ _ h=>⟨h.1,h.2.symm⟩
  have ii:∀ w,Calls Tryz.prog 50 #[.float .f64 x,.int .i64 0] w fun e w'=>e=.returned (.bool (infS x 0))∧w=w':=fun w=>(isInf_c x 0 hx w).mono fun _ _ h=>⟨h.1,h.2.symm⟩
  have st:∀ up w,Calls Tryz.prog 66 #[.float .f64 x,.bool up] w fun e w'=>e=.returned (.float .f64 (stepW x up))∧w=w':=fun up w=>step_c x up hx hn w
  have cs:∀ w,Calls Tryz.prog 65 #[.float .f64 9218868437227405311,.float .f64 x] w fun e w'=>e=.returned (.float .f64 (csgn 9218868437227405311 x))∧w=w':=fun w=>(copysign_c _ x (w_const (by decide)) hx w).mono fun _ _ h=>⟨h.1,h.2.symm⟩
  have hI:(infS x 0=true) ↔ rg x=9218868437227405312:=by unfold infS;simp
  have hG:rg x=9218868437227405312→((FloatKind.f64.format.order x 0=some .gt) ↔ neg x=false):=by
    intro h
    have h1:=gt0 hx
    have h2:isn x=false:=by rw [isn_eq];simp;omega
    rw [h2,plc_eq,h] at h1
    rw [← beq_iff_eq,h1]
    cases neg x <;> simp
  have hL:rg x=9218868437227405312→((FloatKind.f64.format.order x 0=some .lt) ↔ neg x=true):=by
    intro h
    have h1:=lt0 hx
    have h2:isn x=false:=by rw [isn_eq];simp;omega
    rw [h2,plc_eq,h] at h1
    rw [← beq_iff_eq,h1]
    cases neg x <;> simp
  have hC:csgn 9218868437227405311 x=wd (neg x) 9218868437227405311:=by unfold csgn;rw [show rg 9218868437227405311=9218868437227405311 by decide]
  have HI:=Lib.hid hI
  have HG:=Lib.hid hG
  have HL:=Lib.hid hL
  have HC:=Lib.hid hC
  clear hI hG hL hC
  go_enter Tryz.func33,Tryz.ntmps33
  go_wp2_with (first|(go_at_call 48;refine (sg _).mono ?_;rintro e w' ⟨rfl,rfl⟩)|(go_at_call 50;refine (ii _).mono ?_;rintro e w' ⟨rfl,rfl⟩)|(go_at_call 66;refine (st _ _).mono ?_;rintro e w' ⟨rfl,rfl⟩)|(go_at_call 65;refine (cs _).mono ?_;rintro e w' ⟨rfl,rfl⟩))
  all_goals go_ret
  all_goals refine ⟨ret_float ?_,rfl⟩
  all_goals
    have hI:=HI.out
    have hG:=HG.out
    have hL:=HL.out
    have hC:=HC.out
    clear HI HG HL HC sg ii st cs
    (try simp only [beq_iff_eq,beq_eq_false_iff_ne] at *)
    unfold settleW modeW
    grind
end Go.Proofs.YtmndoelimincdaaGreatDoor
namespace Go.Proofs.YtmndoelimincdaaGreatDoor
open Go Go.RowKit GFl Ieee
set_option maxRecDepth 100000
attribute [local go_sem] run_f64bits run_f64frombits run_neg_f64
theorem run_sqrt64 {x r:Nat} (h:double.sqrt x=some r) (w:World):(callFunc 63 #[.float .f64 x]).run Tryz.prog w=.ok (.value (.float .f64 r)) w:=by
  rw [run_callFunc_extern (P:=Tryz.prog) (f:=63) (fn:=Tryz.f63) (e:=Extern.MathSqrt.sqrt) (by kernel_rfl) (by kernel_rfl) (by kernel_rfl) (by kernel_rfl) (by kernel_rfl)]
  have h':FloatKind.f64.format.sqrt x=some r:=h
  have e:Extern.MathSqrt.sqrt #[.float .f64 x]=(match FloatKind.f64.format.sqrt x with|some r=>pure (.float .f64 r)|none=>do pure (.float .f64 (← choose (.nanBits .f64 x x)))):=rfl
  rw [e,h']
  rfl
theorem sqrt_c {x r:Nat} (h:double.sqrt x=some r) (w:World):Calls Tryz.prog 30 #[.float .f64 x] w fun e w'=>e=.returned (.float .f64 r)∧w=w':=by
  have D:=run_sqrt64 h
  clear h
  go_enter Tryz.func30,Tryz.ntmps30
  go_wp2
  go_ret
  exact ⟨rfl,rfl⟩
theorem run_fma64 {x y z r:Nat} (h:double.fma x y z=some r) (w:World):(callFunc 35 #[.float .f64 x,.float .f64 y,.float .f64 z]).run Tryz.prog w=.ok (.value (.float .f64 r)) w:=by
  rw [run_callFunc_extern (P:=Tryz.prog) (f:=35) (fn:=Tryz.f35) (e:=Extern.MathFMA.fma) (by kernel_rfl) (by kernel_rfl) (by kernel_rfl) (by kernel_rfl) (by kernel_rfl)]
  have h':FloatKind.f64.format.fma x y z=some r:=h
  have e:Extern.MathFMA.fma #[.float .f64 x,.float .f64 y,.float .f64 z]=(match FloatKind.f64.format.fma x y z with
    | some r=>pure (.float .f64 r)
    | none=>do
      let (a,b):=if Extern.MathFMA.isNaN x then (x,y) else if Extern.MathFMA.isNaN y then (y,z) else (z,z)
      pure (.float .f64 (← choose (.nanBits .f64 a b)))):=rfl
  rw [e,h']
  rfl
def wayI (m:Int):Int:=if m < 0 ∨ 3 < m then 0 else m
theorem way_c (m:Int) (w:World):Calls Tryz.prog 29 #[.int .i8 m] w fun e w'=>e=.returned (.int .i8 (wayI m))∧w=w':=by
  go_enter Tryz.func29,Tryz.ntmps29
  go_wp2
  all_goals go_ret
  all_goals exact ⟨ret_int (by unfold wayI;grind),rfl⟩
def FRow (w:World) (b:Nat) (l:List Nat):Prop:=∀ k,k < l.length→w.cell? ⟨b,k,none⟩=some (.float .f64 (l.getD k 0))
theorem all_take {p:Nat→Bool} {l:List Nat} {k:Nat} (hk:k < l.length) (h:(l.take k).all p=true) (h1:p (l.getD k 0)=true):(l.take (k + 1)).all p=true:=by
  rw [List.take_succ_eq_append_getElem hk,List.all_append,h]
  rw [List.getD_eq_getElem?_getD,List.getElem?_eq_getElem hk] at h1
  simpa using h1
theorem all_no {p:Nat→Bool} {l:List Nat} {k:Nat} (hk:k < l.length) (h1:p (l.getD k 0)=false):l.all p=false:=by
  rw [List.getD_eq_getElem?_getD,List.getElem?_eq_getElem hk] at h1
  rw [List.all_eq_false]
  exact ⟨l[k],List.getElem_mem hk,by simpa using h1⟩
theorem getD_mem {l:List Nat} {k:Nat} (hk:k < l.length):l.getD k 0 ∈ l:=by
  rw [List.getD_eq_getElem?_getD,List.getElem?_eq_getElem hk];exact List.getElem_mem hk
theorem finite_c (b:Nat) (l:List Nat) (hl:l.length≤1000) (hw:∀ x ∈ l,W64 x) (w:World) (hc:FRow w b l) :
    Calls Tryz.prog 31 #[.slice (some ⟨b,0,none⟩) l.length l.length] w fun e w'=>e=.returned (.bool (l.all fin))∧w=w':=by
  have HC:=Lib.hid hc
  have HW:=Lib.hid hw
  clear hc hw
  go_enter Tryz.func31,Tryz.ntmps31
  go_wp2
  go_loop [7] (fun i=>∃ k:Nat,k≤l.length∧i=.int .i64 k∧Hid ((l.take k).all fin=true)) (fun i=>l.length - (intOf i).toNat)
  case atStart=>exact ⟨0,Nat.zero_le _,rfl,rfl⟩
  case round =>
    obtain ⟨k,hk,rfl,ha⟩:=hrel
    by_cases hlt:k < l.length
    · have hcell:w.cell? ⟨b,k,none⟩=some (.float .f64 (l.getD k 0)):=HC.out k hlt
      have hx:=HW.out _ (getD_mem hlt)
      have AL:=Lib.hid (all_take (p:=fin) hlt ha.out)
      have AN:=Lib.hid (all_no (p:=fin) hlt)
      generalize l.getD k 0=x at *
      have e1:fin x=(!isn x && !infS x 0):=by
        unfold fin infS
        rw [isn_eq,Bool.eq_iff_iff];simp;omega
      have E1:=Lib.hid e1
      clear e1
      go_wp2_with (first|(go_at_call 64;refine (isNaN_c _ hx _).mono ?_;rintro e w' ⟨rfl,hw⟩;obtain rfl:=hw.symm)|(go_at_call 50;refine (isInf_c _ _ hx _).mono ?_;rintro e w' ⟨rfl,hw⟩;obtain rfl:=hw.symm))
      all_goals first
        | (go_ret;exact ⟨ret_bool (AN.out (by rw [E1.out];simp [*])).symm,rfl⟩)
        | (go_round
           case rel=>exact ⟨k + 1,by omega,by go_num,AL.out (by rw [E1.out];simp [*])⟩
           case measure=>simp [intOf];omega)
    · have:k=l.length:=by omega
      subst this
      go_wp2
      go_ret
      exact ⟨ret_bool (by have:=ha.out;rw [List.take_length] at this;exact this.symm),rfl⟩
def plainF (x:Nat):Bool:=decide (200≤rg x / 4503599627370496∧rg x / 4503599627370496≤1900)
theorem u64_low11 (y:Nat) (h:y < 18446744073709551616):bits BinOp.and IntKind.u64 (y:Int) 2047=((y % 2048:Nat):Int):=by
  have:=u64_and_nat y 2047 h (by decide)
  rw [show ((2047:Nat):Int)=2047 from rfl] at this
  rw [this]
  congr 1
  exact Nat.and_two_pow_sub_one_eq_mod y 11
theorem plain_c (b:Nat) (l:List Nat) (hl:l.length≤1000) (hw:∀ x ∈ l,W64 x) (w:World) (hc:FRow w b l) :
    Calls Tryz.prog 32 #[.slice (some ⟨b,0,none⟩) l.length l.length] w fun e w'=>e=.returned (.bool (l.all plainF))∧w=w':=by
  have HC:=Lib.hid hc
  have HW:=Lib.hid hw
  clear hc hw
  go_enter Tryz.func32,Tryz.ntmps32
  go_wp2
  go_loop [8] (fun i=>∃ k:Nat,k≤l.length∧i=.int .i64 k∧Hid ((l.take k).all plainF=true)) (fun i=>l.length - (intOf i).toNat)
  case atStart=>exact ⟨0,Nat.zero_le _,rfl,rfl⟩
  case round =>
    obtain ⟨k,hk,rfl,ha⟩:=hrel
    by_cases hlt:k < l.length
    · have hcell:w.cell? ⟨b,k,none⟩=some (.float .f64 (l.getD k 0)):=HC.out k hlt
      have hx:=HW.out _ (getD_mem hlt)
      have AL:=Lib.hid (all_take (p:=plainF) hlt ha.out)
      have AN:=Lib.hid (all_no (p:=plainF) hlt)
      generalize l.getD k 0=x at *
      have eb:bits BinOp.and IntKind.u64 ((x:Int) / 4503599627370496) 2047=((rg x / 4503599627370496:Nat):Int):=by
        have h:=hx.lt
        have:=u64_low11 (x / 4503599627370496) (by omega)
        rw [show ((x / 4503599627370496:Nat):Int)=(x:Int) / 4503599627370496 by omega] at this
        rw [this,rg_eq]
        congr 1
        omega
      have EB:=Lib.hid eb
      clear eb
      go_wp2
      all_goals simp only [EB.out] at *
      all_goals first
        | (go_ret;exact ⟨ret_bool (AN.out (by unfold plainF;simp;omega)).symm,rfl⟩)
        | (go_round
           case rel=>exact ⟨k + 1,by omega,by go_num,AL.out (by unfold plainF;simp;omega)⟩
           case measure=>simp [intOf];omega)
    · have:k=l.length:=by omega
      subst this
      go_wp2
      go_ret
      exact ⟨ret_bool (by have:=ha.out;rw [List.take_length] at this;exact this.symm),rfl⟩
end Go.Proofs.YtmndoelimincdaaGreatDoor
namespace Go.Proofs.YtmndoelimincdaaGreatDoor
open Go Go.RowKit Nv
open Go.Proofs.YtmndoelimincdaaGreatDoorW.PrintWords (Kd Drawn0 OwnRow Reps)
open XBn
set_option maxRecDepth 100000
set_option linter.unusedSimpArgs false
theorem map_reps6 (l:List Int):Reps (fun x cs=>cs=[Value.int .u64 x]) 1 l (l.map (Value.int .u64)):=by
  refine ⟨by simp,fun j p hp=>?_⟩
  have hj:=(List.getElem?_eq_some_iff.1 hp).1
  have hv:=(List.getElem?_eq_some_iff.1 hp).2
  rw [Nat.mul_one,← List.map_drop,← List.map_take,List.drop_eq_getElem_cons hj,hv];rfl
theorem own_int6 {w:World} {B:Nat} {v:Value} {l:List Int} (h:w.ownsRow B 38 1 v l.length (l.map (Value.int .u64))):∃ A c,v=.slice A l.length c∧l.length≤c∧Kd.C (Kd.int .u64) w A l.length l :=
  OwnRow.reads ⟨_,h,map_reps6 l⟩
theorem own_one6 {w:World} {B:Nat} {A:Option Addr} {c:Nat} {v:Int} (h:w.ownsRow B 38 1 (.slice A 1 c) 1 [.int .u64 v]):∃ ad,A=some ad∧1≤c∧Kd.C (Kd.int .u64) w (some ad) 1 [v]∧w.cell? ad=some (.int .u64 v):=by
  obtain ⟨A',c',e,hc,hC⟩:=own_int6 (l:=[v]) h
  injection e with e1 e2 e3
  subst e1 e3
  obtain ⟨ad,e,hh⟩:=hC.2.2 (by simp)
  subst e
  refine ⟨ad,rfl,hc,hC,?_⟩
  obtain ⟨cs,_,hk,hx⟩:=hh 0 v rfl
  have hk':cs=[Value.int .u64 v]:=hk
  subst hk'
  have:=hx 0 _ rfl
  cases ad
  simpa [Addr.add] using this
set_option maxHeartbeats 1000000 in
theorem rint_t {W:World} (hT:Tab W)
    (hJ:∀ w,Calls Tryz.prog 123 #[.agg #[.bool false,.int .u64 4503599627370497,.int .i64 1]] w fun e w'=>e=.returned (.tuple #[.float .f64 4845873199050653697,.bool true])∧Below w.heap.size w w') :
    Calls Tryz.prog 12 #[.int .i64 9007199254740993,.int .i8 2] W fun e w'=>e=.returned (.float .f64 4845873199050653697)∧Below W.heap.size W w':=by
  have IC:Hid (∀ w,Calls Tryz.prog 47 #[.int .i64 9007199254740993] w fun e w'=>∃ ad c,e=.returned (.agg #[.bool false,.slice (some ad) 1 c,.int .i64 0])∧1≤c∧Kd.C (Kd.int .u64) w' (some ad) 1 [9007199254740993]∧w'.cell? ad=some (.int .u64 9007199254740993)∧Below w.heap.size w w'):=Lib.hid (fun w=>by
    refine (dint_odd (W:=w) 9007199254740993 (by decide) (by decide) (by decide)).mono ?_
    rintro e w' ⟨A,c,rfl,ho,hb⟩
    obtain ⟨ad,rfl,h1,h2,h3⟩:=own_one6 ho
    exact ⟨ad,c,rfl,h1,h2,h3,hb⟩)
  have RC:Hid (∀ w ad c,Below W.heap.size W w→1≤c→Kd.C (Kd.int .u64) w (some ad) 1 [9007199254740993]→w.cell? ad=some (.int .u64 9007199254740993)→Calls Tryz.prog 46 #[.agg #[.bool false,.slice (some ad) 1 c,.int .i64 0],.int .i8 2] w fun e w'=>e=.returned (.tuple #[.float .f64 4845873199050653697,.int .i64 0])∧Below w.heap.size w w'):=Lib.hid (fun w ad c hb h1 h2 h3=>by
    refine dround_t ad c h1 h2 h3 (fun w1 h=>?_) (fun w1=>?_) (fun w1=>?_) hJ
    · have:=tz64_c 4503599627370497 (by decide) w1 ((hT.below hb).below h)
      rwa [show ((Lib.ctz 64 4503599627370497:Nat):Int)=0 from by decide +kernel] at this
    · have:=len64_c 9007199254740993 (by decide) w1
      rwa [show ((Lib.bitLen 9007199254740993:Nat):Int)=54 from by decide +kernel] at this
    · have:=len64_c 4503599627370497 (by decide) w1
      rwa [show ((Lib.bitLen 4503599627370497:Nat):Int)=53 from by decide +kernel] at this)
  have WC:Hid (∀ w,Calls Tryz.prog 29 #[.int .i8 2] w fun e w'=>e=.returned (.int .i8 2)∧w=w'):=Lib.hid (fun w=>way_c 2 w)
  have B0:=Lib.hid (Below.refl W.heap.size W)
  clear hT hJ
  go_enter Tryz.func12,Tryz.ntmps12
  go_wp2_with (first
    | (go_at_call 47;(with_reducible refine (IC.out _).mono ?_);rintro e w1 ⟨ad,c,rfl,h1,h2,h3,hb⟩;have B1:=Lib.hid (bl_then B0.out hb);have H1:=Lib.hid h1;have H2:=Lib.hid h2;have H3:=Lib.hid h3;clear hb h1 h2 h3)
    | (go_at_call 29;(with_reducible refine (WC.out _).mono ?_);rintro e w2 ⟨rfl,rfl⟩)
    | (go_at_call 46;(with_reducible refine (RC.out _ _ _ B1.out H1.out H2.out H3.out).mono ?_);rintro e w3 ⟨rfl,hb⟩;have B3:=Lib.hid (bl_then B1.out hb);clear hb))
  go_ret
  exact ⟨rfl,B3.out⟩
end Go.Proofs.YtmndoelimincdaaGreatDoor
namespace Go.Proofs.YtmndoelimincdaaGreatDoor
open Go Go.RowKit GFl
set_option maxRecDepth 100000
attribute [local go_sem] run_f64bits run_f64frombits run_neg_f64
structure IsUlp (x z:Nat):Prop where
  w:W64 z
  s:neg z=false
  f:rg z < 9218868437227405312
  m:mg B52 (rg z)=p2 (max (rg x / B52) 1 - 1)
theorem IsUlp.unique {x y z:Nat} (h:IsUlp x y) (h':IsUlp x z):y=z :=
  w64_ext h.w h'.w (h.s.trans h'.s.symm) (mg_inj B52_pos (h.m.trans h'.m.symm))
end Go.Proofs.YtmndoelimincdaaGreatDoor
namespace GFl
open Ieee
def joinOk (fr:Nat) (ex:Int):Prop:=fr=0∧ex=0 ∨ fr % 2=1∧fr < 9007199254740992∧-1074≤ex∧fr * p2 (ex + 1074).toNat < p2 2098
structure IsJoin (ng:Bool) (fr:Nat) (ex:Int) (z:Nat):Prop where
  w:W64 z
  s:neg z=ng
  f:rg z < 9218868437227405312
  m:mg B52 (rg z)=fr * p2 (ex + 1074).toNat
theorem IsJoin.unique {ng:Bool} {fr:Nat} {ex:Int} {y z:Nat} (h:IsJoin ng fr ex y) (h':IsJoin ng fr ex z):y=z :=
  w64_ext h.w h'.w (h.s.trans h'.s.symm) (mg_inj B52_pos (h.m.trans h'.m.symm))
theorem p2_lt {a b:Nat} (h:p2 a < p2 b):a < b:=by
  rcases Nat.lt_or_ge a b with h1|h1
  · exact h1
  · have:=p2_le h1;omega
theorem p2_lt' {a b:Nat} (h:a < b):p2 a < p2 b:=by
  have h1:p2 (a + 1)≤p2 b:=p2_le h
  rw [p2_add] at h1
  have h2:p2 1=2:=by decide +kernel
  have:=p2_pos a
  rw [h2] at h1;omega
structure Len (fr n:Nat):Prop where
  pos:1≤n
  lo:p2 (n - 1)≤fr
  hi:fr < p2 n
theorem Len.le53 {fr n:Nat} (h:Len fr n):n≤53 ↔ fr < 9007199254740992:=by
  have e:p2 53=9007199254740992:=by decide +kernel
  rw [← e]
  constructor
  · intro h1;exact Nat.lt_of_lt_of_le h.hi (p2_le h1)
  · intro h1
    have:=p2_lt (Nat.lt_of_le_of_lt h.lo h1)
    omega
theorem Len.fits {fr n:Nat} {ex:Int} (h:Len fr n) (he:-1074≤ex):fr * p2 (ex + 1074).toNat < p2 2098 ↔ ex + n≤1024:=by
  have hp:=h.pos
  constructor
  · intro h1
    have h2:p2 (n - 1) * p2 (ex + 1074).toNat≤fr * p2 (ex + 1074).toNat:=Nat.mul_le_mul_right _ h.lo
    rw [← p2_add] at h2
    have:=p2_lt (Nat.lt_of_le_of_lt h2 h1)
    omega
  · intro h1
    have h2:fr * p2 (ex + 1074).toNat < p2 n * p2 (ex + 1074).toNat:=Nat.mul_lt_mul_of_pos_right h.hi (p2_pos _)
    rw [← p2_add] at h2
    exact Nat.lt_of_lt_of_le h2 (p2_le (by omega))
theorem joinOk_odd {fr n:Nat} {ex:Int} (h:Len fr n) (ho:fr % 2=1):joinOk fr ex ↔ n≤53∧-1074≤ex∧ex + n≤1024:=by
  unfold joinOk
  have h1:=h.le53
  constructor
  · rintro (⟨h2,_⟩|⟨_,h2,h3,h4⟩)
    · omega
    · exact ⟨h1.2 h2,h3,(h.fits h3).1 h4⟩
  · rintro ⟨h2,h3,h4⟩
    exact .inr ⟨ho,h1.1 h2,h3,(h.fits h3).2 h4⟩
theorem joinOk_even {fr:Nat} {ex:Int} (h0:fr ≠ 0) (h:fr % 2=0):¬ joinOk fr ex:=by
  unfold joinOk;omega
theorem joinOk_zero {ex:Int}:joinOk 0 ex ↔ ex=0:=by
  unfold joinOk;omega
theorem isJoin_ld {c fr:Nat} {ex:Int} {z:Nat} (hc:mg B52 (rg c)=fr * p2 1074) (hn:neg c=false) (hf:fr < 9007199254740992) (he:-1074≤ex) (hlt:fr * p2 (ex + 1074).toNat < p2 2098) (h:IsLd c ex z):IsJoin false fr ex z:=by
  obtain ⟨r,hr,e⟩:=h
  rw [hc] at hr
  obtain ⟨q,hq⟩:=rep (B:=B52) fr (ex + 1074).toNat (by unfold B52;omega)
  have hrq:r=q:=by
    refine rn_exact B52_pos (p2_pos _) hr ?_
    rw [hq,Nat.mul_assoc,Nat.mul_assoc,← p2_add,← p2_add]
    congr 2;omega
  have hhi:q < 9218868437227405312:=by
    rw [← mg_lt_iff (B:=B52) B52_pos,hq,mgINF]
    have h2:B52 * p2 2046=p2 2098:=by rw [show B52=p2 52 from by decide +kernel,← p2_add]
    rw [h2];exact hlt
  have hq63:q < 9223372036854775808:=by omega
  rw [hrq,hn,Nat.min_eq_left (Nat.le_of_lt hhi)] at e
  rw [e]
  exact ⟨wd_w hq63,wd_neg hq63,by rw [wd_rg hq63];exact hhi,by rw [wd_rg hq63];exact hq⟩
theorem isJoin_neg {fr:Nat} {ex:Int} {z:Nat} (h:IsJoin false fr ex z):IsJoin true fr ex (wd true (rg z)):=by
  have hl:=rg_lt z
  exact ⟨wd_w hl,wd_neg hl,by rw [wd_rg hl];exact h.f,by rw [wd_rg hl];exact h.m⟩
theorem ofNat64 {n:Nat} (h:n < 9007199254740992):∃ z,double.write (.number false n 0)=z∧W64 z∧neg z=false∧rg z < 9218868437227405312∧mg B52 (rg z)=n * p2 1074:=by
  obtain ⟨r,hr,e⟩:=nearest_rn good_double false n 0
  obtain ⟨q,hq⟩:=rep (B:=B52) n 1074 (by unfold B52;omega)
  have e1:((0:Int) - double.leastPlace).toNat=1074:=by decide
  have e2:(double.leastPlace - 0).toNat=0:=by decide
  rw [d_b,← p2_def,← p2_def,e1,e2,p2_zero] at hr
  have hrq:r=q:=rn_exact B52_pos Nat.one_pos hr (by rw [hq,Nat.mul_one])
  have hhi:q < 9218868437227405312:=by
    rw [← mg_lt_iff (B:=B52) B52_pos,hq,mgINF]
    have h2:B52 * p2 2046=p2 2098:=by rw [show B52=p2 52 from by decide +kernel,← p2_add]
    have h3:(9007199254740992:Nat)=p2 53:=by decide +kernel
    rw [h2]
    refine Nat.lt_of_lt_of_le (Nat.mul_lt_mul_of_pos_right (h3 ▸ h) (p2_pos _)) ?_
    rw [← p2_add];exact p2_le (by decide)
  have hq63:q < 9223372036854775808:=by omega
  refine ⟨wd false q,?_,wd_w hq63,wd_neg hq63,by rw [wd_rg hq63];exact hhi,by rw [wd_rg hq63];exact hq⟩
  show double.nearest false n 0=_
  rw [e,hrq,d_inf,Nat.min_eq_left (Nat.le_of_lt hhi)];rfl
end GFl
namespace Go.Proofs.YtmndoelimincdaaGreatDoor
open Go Go.RowKit GFl
set_option maxRecDepth 100000
attribute [local go_sem] run_f64bits run_f64frombits run_neg_f64
theorem bitLenAux_len:∀ (f x:Nat),x < 2 ^ f→x ≠ 0→1≤Lib.bitLenAux f x∧2 ^ (Lib.bitLenAux f x - 1)≤x∧x < 2 ^ Lib.bitLenAux f x
  | 0,x,h,h0=>by simp at h;omega
  | f + 1,x,h,h0=>by
    unfold Lib.bitLenAux
    rw [if_neg h0]
    rw [Nat.pow_succ] at h
    by_cases h1:x / 2=0
    · have hx:x=1:=by omega
      subst hx
      have e:Lib.bitLenAux f 0=0:=by cases f <;> simp [Lib.bitLenAux]
      rw [h1,e];decide
    · obtain ⟨a,b,c⟩:=bitLenAux_len f (x / 2) (by omega) h1
      generalize Lib.bitLenAux f (x / 2)=n at *
      refine ⟨by omega,?_,?_⟩
      · have e:1 + n - 1=(n - 1) + 1:=by omega
        rw [e,Nat.pow_succ];omega
      · rw [Nat.add_comm,Nat.pow_succ];omega
theorem len_b7 {x:Nat} (h:x < 18446744073709551616) (h0:x ≠ 0):Len x (Lib.bitLen x):=by
  obtain ⟨a,b,c⟩:=bitLenAux_len 64 x (by omega) h0
  exact ⟨a,by rw [p2_def];exact b,by rw [p2_def];exact c⟩
theorem bitLen_le64 {x:Nat} (h:x < 18446744073709551616):Lib.bitLen x≤64:=by
  by_cases h0:x=0
  · subst h0;decide
  · have l:=len_b7 h h0
    have h1:p2 (Lib.bitLen x - 1) < p2 64:=Nat.lt_of_le_of_lt l.lo (by rw [p2_def];omega)
    have:=p2_lt h1
    omega
def JoinPost (ng:Bool) (fr:Nat) (ex:Int) (w:World) (e:Ending) (w':World):Prop:=∃ z ok,e=.returned (.tuple #[.float .f64 z,.bool ok])∧(ok=true ↔ joinOk fr ex)∧(ok=true→IsJoin ng fr ex z)∧(ok=false→z=0)∧Below w.heap.size w w'
theorem JoinPost.no {ng:Bool} {fr:Nat} {ex:Int} {w w':World} (h:¬ joinOk fr ex) (hb:Below w.heap.size w w'):JoinPost ng fr ex w (.returned (.tuple #[.float .f64 0,.bool false])) w' :=
  ⟨0,false,rfl,by simp [h],by simp,fun _=>rfl,hb⟩
theorem JoinPost.yes {ng:Bool} {fr:Nat} {ex:Int} {z:Nat} {w w':World} (h:joinOk fr ex) (hj:IsJoin ng fr ex z) (hb:Below w.heap.size w w'):JoinPost ng fr ex w (.returned (.tuple #[.float .f64 z,.bool true])) w' :=
  ⟨z,true,rfl,by simp [h],fun _=>hj,by simp,hb⟩
theorem isJoin_zero (ng:Bool):IsJoin ng 0 0 (wd ng 0) :=
  ⟨wd_w (by decide),wd_neg (by decide),by rw [wd_rg (by decide)];decide,by rw [wd_rg (by decide),Nat.zero_mul];decide⟩
theorem cv_u64 {fr z:Nat} (h:Ieee.double.write (.number false fr 0)=z):floatOfInt .f64 (fr:Int)=z:=by
  unfold floatOfInt FloatKind.nearest FloatKind.encode FloatKind.format
  have h1:¬ (fr:Int) < 0:=by omega
  simp only [h1,decide_false,Int.natAbs_natCast]
  exact h
set_option maxHeartbeats 1000000 in
theorem join_c (ng:Bool) (fr:Nat) (ex:Int) (hf:fr < 18446744073709551616) (he1:-9223372036854775808≤ex) (he2:ex≤9223372036854775807) (w:World) :
    Calls Tryz.prog 123 #[.agg #[.bool ng,.int .u64 fr,.int .i64 ex]] w (JoinPost ng fr ex w):=by
  by_cases h0:fr=0
  · subst h0
    by_cases hx:ex=0
    · subst hx
      have hz:Lib.bitLen 0=0:=by decide
      have c0:floatOfInt .f64 0=0:=by decide
      cases ng
      all_goals
        go_enter Tryz.func123,Tryz.ntmps123
        go_wp2_with (first|(go_at_call 114;refine (len64_c 0 (by decide) _).mono ?_;rw [hz];rintro e w' ⟨rfl,rfl⟩)|(go_at_call 26;refine (ldexp_00 _ _ (w_const (by decide)) (by decide) _).mono ?_;rintro e w' ⟨rfl,rfl⟩)|(go_at_call 65;refine (copysign_c _ _ (w_const (by decide)) (w_const (by decide)) _).mono ?_;rintro e w' ⟨rfl,rfl⟩))
        go_ret2
        exact JoinPost.yes (.inl ⟨rfl,rfl⟩) (isJoin_zero _) (bl_alloc (Below.refl _ _) _)
    · have hx':(ex != 0)=true:=by simp [hx]
      have hno:¬ joinOk 0 ex:=by rw [joinOk_zero];exact hx
      have hz:Lib.bitLen 0=0:=by decide
      clear hx
      go_enter Tryz.func123,Tryz.ntmps123
      go_wp2_with (first|(go_at_call 114;refine (len64_c 0 (by decide) _).mono ?_;rw [hz];rintro e w' ⟨rfl,rfl⟩))
      go_ret2
      exact JoinPost.no hno (bl_alloc (Below.refl _ _) _)
  · have k1:((fr:Int) == 0)=false:=by simp [h0]
    have k2:((fr:Int) != 0)=true:=by simp [h0]
    have l:=len_b7 hf h0
    have l64:=bitLen_le64 hf
    by_cases hev:fr % 2=0
    · have k3:((fr:Int) % 2 == 0)=true:=by simp;omega
      have hno:=joinOk_even (ex:=ex) h0 hev
      have H:=Lib.hid hno
      clear h0 hev l hno
      go_enter Tryz.func123,Tryz.ntmps123
      go_wp2_with (first|(go_at_call 114;refine (len64_c fr hf _).mono ?_;rintro e w' ⟨rfl,rfl⟩))
      go_ret2
      exact JoinPost.no H.out (bl_alloc (Below.refl _ _) _)
    · have k3:((fr:Int) % 2 == 0)=false:=by simp;omega
      have hok:=joinOk_odd (ex:=ex) l (by omega)
      have l53:=l.le53
      have lfit:=@Len.fits _ _ ex l
      have lp:=l.pos
      obtain ⟨n,hn⟩:∃ n,Lib.bitLen fr=n:=⟨_,rfl⟩
      rw [hn] at hok l53 lfit lp l64
      have HN:=Lib.hid hn
      clear hn l h0 hev
      by_cases hy:n≤53∧-1074≤ex∧ex + n≤1024
      · obtain ⟨y1,y2,y3⟩:=hy
        obtain ⟨c,hc,c1,c2,c3,c4⟩:=ofNat64 (l53.1 y1)
        have hcv:=cv_u64 hc
        have hj:∀ z,IsLd c ex z→IsJoin false fr ex z:=fun z h=>isJoin_ld c4 c2 (l53.1 y1) y2 ((lfit y2).2 y3) h
        have hpos:0 < rg c:=by
          rcases Nat.eq_zero_or_pos (rg c) with h|h
          · rw [h,show mg B52 0=0 from by decide] at c4
            rcases Nat.mul_eq_zero.1 c4.symm with h'|h'
            · subst h';simp at k1
            · have:=p2_pos 1074;omega
          · exact h
        have J:=Lib.hid hj
        have OK:=Lib.hid (hok.2 ⟨y1,y2,y3⟩)
        clear hok l53 lfit hj c4 hc c2
        cases ng
        all_goals
          go_enter Tryz.func123,Tryz.ntmps123
          go_wp2_with (first|(go_at_call 114;refine (len64_c fr hf _).mono ?_;rw [HN.out];rintro e w' ⟨rfl,rfl⟩)|(go_at_call 26;refine (ldexp_cc _ _ c1 hpos c3 (by omega) (by omega) _).mono ?_;rintro e w' ⟨z,rfl,hl,⟨⟨nq,rfl⟩⟩⟩)|(go_at_call 65;refine (copysign_c _ _ (J.out z hl).w (w_const (by decide)) _).mono ?_;rintro e w' ⟨rfl,rfl⟩))
          go_ret2
          first
            | exact JoinPost.yes OK.out (J.out z hl) (bl_drewN (bl_alloc (Below.refl _ _) _) _)
            | exact JoinPost.yes OK.out (isJoin_neg (J.out z hl)) (bl_drewN (bl_alloc (Below.refl _ _) _) _)
      · have H:=Lib.hid (mt hok.1 hy)
        clear hok l53 lfit
        go_enter Tryz.func123,Tryz.ntmps123
        go_wp2_with (first|(go_at_call 114;refine (len64_c fr hf _).mono ?_;rw [HN.out];rintro e w' ⟨rfl,rfl⟩))
        all_goals go_ret2
        all_goals exact JoinPost.no H.out (bl_alloc (Below.refl _ _) _)
end Go.Proofs.YtmndoelimincdaaGreatDoor
namespace GFl
open Ieee Go
theorem write_num (s:Bool) (m:Nat) (e:Int):W64 (double.write (.number s m e))∧neg (double.write (.number s m e))=s∧rg (double.write (.number s m e))≤9218868437227405312:=by
  obtain ⟨r,_,h⟩:=nearest_rn good_double s m e
  have h':double.write (.number s m e)=wd s (min r 9218868437227405312):=by rw [← d_inf];exact h
  have hl:min r 9218868437227405312 < 9223372036854775808:=by omega
  rw [h']
  exact ⟨wd_w hl,wd_neg hl,by rw [wd_rg hl];omega⟩
theorem write_inf (s:Bool):double.write (.infinity s)=wd s 9218868437227405312:=by rw [← d_inf];rfl
theorem read_fin {x:Nat} (hx:W64 x) (hf:rg x < 9218868437227405312):∃ m e,double.read x=.number (neg x) m e:=by
  obtain ⟨m,e,hr,_⟩:=read_num (f:=double) hx (by rw [d_inf];exact hf)
  exact ⟨m,e,hr⟩
theorem sub_self64 {x:Nat} (hx:W64 x) (hf:rg x < 9218868437227405312):double.sub x x=some 0:=by
  obtain ⟨m,e,ex⟩:=read_fin hx hf
  unfold Format.sub
  rw [ex]
  simp only [Datum.opposite,Datum.sum,Option.map_some]
  have h:signed (neg x) m (e - min e e).toNat + signed (!neg x) m (e - min e e).toNat=0:=by
    unfold signed
    cases neg x <;> simp <;> omega
  rw [h,if_pos rfl]
  have hb:(neg x && !neg x)=false:=by cases neg x <;> rfl
  rw [hb]
  show some (double.nearest false 0 (min e e))=some 0
  unfold Format.nearest
  rw [if_pos rfl];decide
end GFl
namespace GFl
open Ieee
theorem read_fneg {y:Nat} (hy:W64 y):double.read (fneg y)=(double.read y).opposite:=by
  have h1:W64 (fneg y):=fneg_w hy
  have r:fneg y % double.signWeight=y % double.signWeight:=fneg_rg hy
  have s:(fneg y / double.signWeight % 2 == 1)=!(y / double.signWeight % 2 == 1):=by rw [sgn_eq h1,sgn_eq hy];exact fneg_neg hy
  unfold Format.read
  simp only [r,s]
  (repeat' split) <;> rfl
theorem sub_add {x y:Nat} (hy:W64 y):double.sub x y=double.add x (fneg y):=by unfold Format.sub Format.add;rw [read_fneg hy]
theorem sub_self_no {x:Nat} (hx:W64 x) (h:9218868437227405312≤rg x):double.sub x x=none:=by
  unfold Format.sub
  rcases Nat.lt_or_eq_of_le h with h1|h1
  · rw [read_nan hx (by rw [d_inf];exact h1) good_double];rfl
  · rw [read_inf hx (by rw [d_inf];exact h1.symm) good_double]
    cases sgn double x <;> rfl
theorem val_wd {s:Bool} {r:Nat} (h:r < 9223372036854775808):val (wd s r)=if s then -(mg B52 r:Int) else (mg B52 r:Int):=by rw [val_eq',wd_rg h,wd_neg h]
end GFl
namespace GFl
open Ieee
structure Nn (x:Nat):Prop where
  w:W64 x
  r:rg x≤9218868437227405312
theorem Nn.isn {x:Nat} (h:Nn x):GFl.isn x=false:=by rw [isn_eq];have:=h.r;simp;omega
theorem mgP {E:Nat} (h:1≤E):mg B52 (E * B52)=p2 52 * p2 (E - 1):=by
  have:=mg_B E 0 h B52_pos
  rw [Nat.add_zero,Nat.add_zero] at this
  rw [this]
  have e:B52=p2 52:=by rw [p2_def]
  rw [← e]
theorem rn_below {N D r E:Nat} (hD:0 < D) (h:IsRn B52 N D r) (hE:1≤E) (hb:N≤p2 52 * p2 (E - 1) * D):r≤E * B52:=rn_le B52_pos hD h (by rw [mgP hE];exact hb)
theorem p2_suc (n:Nat):p2 (n + 1)=p2 n * 2:=by rw [p2_def,p2_def,Nat.pow_succ]
def cR:Option Nat→List Nat→List Nat→List (Nat × Option Nat)
  | _,[],_=>[]
  | p,a :: d,o=>(a,p) :: cR o.head? d o.tail
end GFl
namespace GFl
open Ieee Go
theorem write_w {d:Datum} (h:∀ s p,d ≠ .nan s p):W64 (double.write d)∧rg (double.write d)≤9218868437227405312:=by
  cases d with
  | nan s p=>exact absurd rfl (h s p)
  | infinity s=>rw [write_inf];exact ⟨wd_w (by omega),by rw [wd_rg (by omega)];omega⟩
  | number s m e=>obtain ⟨h1,_,h3⟩:=write_num s m e;exact ⟨h1,h3⟩
theorem sum_nn {a b d:Datum} (h:a.sum b=some d):∀ s p,d ≠ .nan s p:=by
  intro s p e
  subst e
  cases a <;> cases b <;> simp [Datum.sum] at h
theorem add_opt {x y s:Nat} (h:double.add x y=some s):W64 s∧rg s≤9218868437227405312:=by
  unfold Format.add at h
  obtain ⟨d,hd,rfl⟩:=Option.map_eq_some_iff.1 h
  exact write_w (sum_nn hd)
theorem add_f {x y:Nat} (hx:W64 x) (hy:W64 y) (h1:rg x < 9218868437227405312) (h2:rg y < 9218868437227405312):∃ s,double.add x y=some s∧W64 s∧rg s≤9218868437227405312:=by
  obtain ⟨r,_,e⟩:=add64 hx hy h1 h2
  exact ⟨_,e,add_opt e⟩
theorem sub_any {x y:Nat} (hx:W64 x) (hy:W64 y) (h1:rg x < 9218868437227405312) (h2:rg y≤9218868437227405312):∃ s,double.sub x y=some s∧W64 s∧rg s≤9218868437227405312:=by
  rw [sub_add hy]
  rcases Nat.lt_or_eq_of_le h2 with h|h
  · exact add_f hx (fneg_w hy) h1 (by rw [fneg_rg hy];exact h)
  · obtain ⟨m,e,hr⟩:=read_fin hx h1
    have hi:double.read (fneg y)=.infinity (sgn double (fneg y)):=read_inf (f:=double) (fneg_w hy) (by rw [d_inf];exact (fneg_rg hy).trans h) good_double
    have:double.add x (fneg y)=some (double.write (.infinity (sgn double (fneg y)))):=by
      unfold Format.add;rw [hr,hi];rfl
    exact ⟨_,this,add_opt this⟩
def Fo (o:Option Nat) (r:Nat):Prop:=W64 r∧match o with|some y=>r=y|none=>isn r=true
theorem Fo.mk {o:Option Nat} {y:Nat} (h:o=some y) (hw:W64 y):Fo o y:=by subst h;exact ⟨hw,rfl⟩
theorem Fo.nan {o:Option Nat} {y:Nat} (h:o=none) (hw:W64 y) (hn:isn y=true):Fo o y:=by subst h;exact ⟨hw,hn⟩
theorem Fo.same {o:Option Nat} {r s:Nat} (h:Fo o r) (k:Fo o s):sameF r s=true:=by
  obtain ⟨_,h⟩:=h
  obtain ⟨_,k⟩:=k
  cases o with
  | none=>simp only at h k;simp [sameF,h,k]
  | some y=>simp only at h k;simp [sameF,h,k]
end GFl
namespace Go.Proofs.YtmndoelimincdaaGreatDoor
open Go Go.RowKit GFl Ieee
set_option maxRecDepth 100000
attribute [local go_sem] run_f64bits run_f64frombits run_neg_f64
theorem frow1 (x:Nat) (w:World) (t:TypeId):FRow (w.alloc (.cells #[.float .f64 x] t)) w.heap.size [x]:=by
  intro k hk
  have:k=0:=by simpa using hk
  subst this
  exact kb_cell (w:=w.alloc (.cells #[.float .f64 x] t)) Array.getElem?_push_size rfl
theorem rsqrt_c {x r t:Nat} (m:Int) (hx:W64 x) (h0:0 < plc x) (hf:fin x=true) (hp:plainF x=true) (hs:double.sqrt x=some r) (hr:W64 r) (hrn:rg r≤9218868437227405312) (ht:double.fma (fneg r) r x=some t) (hw:W64 t) (w:World) :
    Calls Tryz.prog 10 #[.float .f64 x,.int .i8 m] w fun e w'=>e=.returned (.float .f64 (settleW r (sgI t) (wayI m)))∧Below w.heap.size w w':=by
  have k1:(FloatKind.f64.format.order x 0 == some .lt || FloatKind.f64.format.order x 0 == some .eq)=false:=by
    rw [le0 hx,fin_isn hf];simp;omega
  have D:=run_fma64 ht
  have HF:=Lib.hid hf
  have HP:=Lib.hid hp
  have fn:∀ (w:World) (b:Nat),b=w.heap.size→Calls Tryz.prog 31 #[.slice (some ⟨b,0,none⟩) 1 1] (w.alloc (.cells #[.float .f64 x] 22)) fun e w'=>e=.returned (.bool true)∧w.alloc (.cells #[.float .f64 x] 22)=w':=fun w b hb=>hb ▸
    (finite_c _ [x] (by simp) (by simpa using hx) _ (frow1 x w _)).mono fun _ _ h=>⟨by rw [h.1];simp [HF.out],h.2⟩
  have pl:∀ (w:World) (b:Nat),b=w.heap.size→Calls Tryz.prog 32 #[.slice (some ⟨b,0,none⟩) 1 1] (w.alloc (.cells #[.float .f64 x] 22)) fun e w'=>e=.returned (.bool true)∧w.alloc (.cells #[.float .f64 x] 22)=w':=fun w b hb=>hb ▸
    (plain_c _ [x] (by simp) (by simpa using hx) _ (frow1 x w _)).mono fun _ _ h=>⟨by rw [h.1];simp [HP.out],h.2⟩
  clear hf hp h0
  go_enter Tryz.func10,Tryz.ntmps10
  go_wp2_with (first|(go_at_call 29;refine (way_c _ _).mono ?_;rintro e w' ⟨rfl,rfl⟩)|(go_at_call 30;refine (sqrt_c hs _).mono ?_;rintro e w' ⟨rfl,rfl⟩)|(go_at_call 31;refine (fn _ _ (by simp)).mono ?_;rintro e w' ⟨rfl,rfl⟩)|(go_at_call 32;refine (pl _ _ (by simp)).mono ?_;rintro e w' ⟨rfl,rfl⟩)|(go_at_call 34;refine (sign_c t hw _).mono ?_;rintro e w' ⟨rfl,rfl⟩)|(go_at_call 33;refine (settle_c r _ _ hr hrn _).mono ?_;rintro e w' ⟨rfl,rfl⟩))
  go_ret
  exact ⟨rfl,by repeat' (first|(with_reducible exact Below.refl _ _)|(with_reducible refine bl_alloc ?_ _)|(with_reducible refine bl_drewN ?_ _)|(with_reducible refine bl_drew ?_)|(with_reducible refine bl_set ?_ _ (by simp)))⟩
end Go.Proofs.YtmndoelimincdaaGreatDoor
namespace Go.Proofs.YtmndoelimincdaaGreatDoor
open Go Go.RowKit GFl Ieee
set_option maxRecDepth 100000
set_option linter.unusedSimpArgs false
attribute [local go_sem] run_f64bits run_f64frombits run_neg_f64
theorem fo_of {o:Option Nat} {r:Nat} (h:FR .f64 o r) (hy:∀ y,o=some y→W64 y):Fo o r:=by
  cases o with
  | some y=>have e:r=y:=h;subst e;exact ⟨hy _ rfl,rfl⟩
  | none=>exact ⟨h.2,by
      rw [isn_eq]
      have h1:=h.1
      simp only [FloatKind.format] at h1
      rw [d_inf] at h1
      exact decide_eq_true h1⟩
theorem frow2 (x y:Nat) (w:World) (t:TypeId):FRow (w.alloc (.cells #[.float .f64 x,.float .f64 y] t)) w.heap.size [x,y]:=by
  intro k hk
  have:k=0 ∨ k=1:=by simp at hk;omega
  rcases this with rfl|rfl
  · exact kb_cell (w:=w.alloc (.cells #[.float .f64 x,.float .f64 y] t)) Array.getElem?_push_size rfl
  · exact kb_cell (w:=w.alloc (.cells #[.float .f64 x,.float .f64 y] t)) Array.getElem?_push_size rfl
theorem eqz {x:Nat} (hx:W64 x) (h:rg x≤9218868437227405312):(FloatKind.f64.format.order x 0 == some .eq)=decide (rg x=0):=by
  have h2:isn x=false:=by rw [isn_eq];simp;omega
  rw [eq0 hx,h2]
  simp only [Bool.not_false,Bool.true_and]
  by_cases h0:rg x=0
  · rw [decide_eq_true (plc_zero.2 h0),decide_eq_true h0]
  · rw [decide_eq_false (fun e=>h0 (plc_zero.1 e)),decide_eq_false h0]
theorem nez {x:Nat} (hx:W64 x) (h:rg x≤9218868437227405312):(FloatKind.f64.format.order x 0 != some .eq)=!decide (rg x=0):=by
  rw [← eqz hx h];rfl
theorem abs_lt2 {a b:Nat} (ha:rg a≤9218868437227405312) (hb:rg b≤9218868437227405312):(FloatKind.f64.format.order (fabs a) (fabs b) == some .lt)=decide (rg a < rg b):=by
  have h1:W64 (fabs a):=by unfold fabs;exact W64.mk (by omega)
  have h2:W64 (fabs b):=by unfold fabs;exact W64.mk (by omega)
  have r1:rg (fabs a)=rg a:=by unfold fabs;rw [rg_eq];omega
  have r2:rg (fabs b)=rg b:=by unfold fabs;rw [rg_eq];omega
  have n1:neg (fabs a)=false:=by unfold fabs;rw [neg_eq];simp;omega
  have n2:neg (fabs b)=false:=by unfold fabs;rw [neg_eq];simp;omega
  rw [show FloatKind.f64.format=double from rfl,o_lt h1 h2,isn_eq,isn_eq,r1,r2,plc_eq,plc_eq,n1,n2,r1,r2]
  simp only [if_false,Bool.false_eq_true]
  rw [Bool.eq_iff_iff];simp;omega
def addE (a b s:Nat):Int :=
  if rg a < rg b then sgI ((double.sub a ((double.sub s b).getD 0)).getD 0) else sgI ((double.sub b ((double.sub s a).getD 0)).getD 0)
def addW (a b:Nat) (m:Int) (s:Nat):Nat :=
  if rg s=0 then (if rg a=0∧neg a=neg b then s else if m=1 then 9223372036854775808 else 0)
  else if rg s=9218868437227405312 then settleW s 0 (wayI m) else settleW s (addE a b s) (wayI m)
def addR (a b:Nat) (m:Int):Option Nat:=if (fin a && fin b)=true then (double.add a b).map (addW a b m) else double.add a b
theorem addR_fin {a b s:Nat} {m:Int} (ha:fin a=true) (hb:fin b=true) (h:double.add a b=some s):addR a b m=some (addW a b m s):=by
  unfold addR;rw [ha,hb,h];rfl
theorem addR_no {a b:Nat} {m:Int} (h:(fin a && fin b)=false):addR a b m=double.add a b:=by
  unfold addR;rw [h];rfl
theorem step_w {x:Nat} {u:Bool} (hx:W64 x) (hn:rg x≤9218868437227405312):W64 (stepW x u):=by
  unfold stepW
  have h1:=hx.lt
  have h2:=rg_eq x
  split
  · split <;> exact W64.mk (by omega)
  · split <;> exact W64.mk (by omega)
theorem settle_w {x:Nat} {o m:Int} (hx:W64 x) (hn:rg x≤9218868437227405312):W64 (settleW x o m):=by
  unfold settleW
  split
  · split
    · exact wd_w (by omega)
    · exact hx
  · split
    · exact step_w hx hn
    · exact hx
theorem addW_w {a b s:Nat} {m:Int} (hx:W64 s) (hn:rg s≤9218868437227405312):W64 (addW a b m s):=by
  unfold addW
  split
  · split
    · exact hx
    · split <;> exact W64.mk (by omega)
  · split <;> exact settle_w hx hn
theorem none_c (m:Int) (w:World):Calls Tryz.prog 49 #[.int .i8 m] w fun e w'=>e=.returned (.float .f64 (if m=1 then 9223372036854775808 else 0))∧w=w':=by
  have cs:∀ w,Calls Tryz.prog 65 #[.float .f64 0,.float .f64 13830554455654793216] w fun e w'=>e=.returned (.float .f64 9223372036854775808)∧w=w':=fun w=>(copysign_c _ _ (w_const (by decide)) (w_const (by decide)) w).mono fun _ _ h=>⟨by rw [h.1];rfl,h.2.symm⟩
  by_cases h:m=1
  · subst h
    go_enter Tryz.func49,Tryz.ntmps49
    go_wp2_with (go_at_call 65;refine (cs _).mono ?_;rintro e w' ⟨rfl,rfl⟩)
    go_ret
    exact ⟨rfl,rfl⟩
  · have k:(m == 1)=false:=by rw [beq_eq_false_iff_ne];exact h
    rw [if_neg h]
    go_enter Tryz.func49,Tryz.ntmps49
    go_wp2
    go_ret
    exact ⟨rfl,rfl⟩
set_option maxHeartbeats 4000000 in
theorem radd_c (a b:Nat) (m:Int) (ha:W64 a) (hb:W64 b) (w:World) :
    Calls Tryz.prog 15 #[.float .f64 a,.float .f64 b,.int .i8 m] w fun e w'=>∃ r,e=.returned (.float .f64 r)∧Fo (addR a b m) r∧Below w.heap.size w w':=by
  have fn:∀ (w:World) (bl:Nat),bl=w.heap.size→Calls Tryz.prog 31 #[.slice (some ⟨bl,0,none⟩) 2 2] (w.alloc (.cells #[.float .f64 a,.float .f64 b] 22)) fun e w'=>e=.returned (.bool (fin a && fin b))∧w.alloc (.cells #[.float .f64 a,.float .f64 b] 22)=w':=fun w bl h=>h ▸
    (finite_c _ [a,b] (by simp) (by simp [ha,hb]) _ (frow2 a b w _)).mono fun _ _ h=>⟨by rw [h.1];simp,h.2⟩
  have B0:Hid (∀ w1 n,Below w.heap.size w w1→Below w.heap.size w ((w1.drewN n).alloc (.cells #[.float .f64 a,.float .f64 b] 22))):=Lib.hid (fun w1 n h=>bl_alloc (bl_drewN h n) _)
  by_cases hf:(fin a && fin b)=true
  · have fa:fin a=true:=by cases h:fin a <;> rw [h] at hf <;> simp at hf ⊢
    have fb:fin b=true:=by cases h:fin b <;> rw [h,fa] at hf <;> simp at hf ⊢
    have ra:rg a < 9218868437227405312:=by unfold fin at fa;simpa using fa
    have rb:rg b < 9218868437227405312:=by unfold fin at fb;simpa using fb
    obtain ⟨s,hs,sw,sr⟩:=add_f ha hb ra rb
    have AR:=Lib.hid (addR_fin (m:=m) fa fb hs)
    have AW:=Lib.hid (addW_w (a:=a) (b:=b) (m:=m) sw sr)
    rw [hf] at fn
    have FN:=Lib.hid fn
    have d0:∀ (t:TypeId) w,(binOp .add t (.float .f64 a) (.float .f64 b)).run Tryz.prog w=.ok (.float .f64 s) w:=fun t w=>run_float_arith w .add t .f64 a b s hs
    have e0:=eqz sw sr
    have e1:=nez ha (by omega)
    have WC:=Lib.hid (fun w=>way_c m w)
    have NC:=Lib.hid (fun w=>none_c (wayI m) w)
    have sga:Hid (∀ w,Calls Tryz.prog 48 #[.float .f64 a] w fun e w'=>e=.returned (.bool (neg a))∧w=w'):=Lib.hid (fun w=>(signbit_c a ha w).mono fun _ _ h=>⟨h.1,h.2.symm⟩)
    have sgb:Hid (∀ w,Calls Tryz.prog 48 #[.float .f64 b] w fun e w'=>e=.returned (.bool (neg b))∧w=w'):=Lib.hid (fun w=>(signbit_c b hb w).mono fun _ _ h=>⟨h.1,h.2.symm⟩)
    have ii:Hid (∀ w,Calls Tryz.prog 50 #[.float .f64 s,.int .i64 0] w fun e w'=>e=.returned (.bool (decide (rg s=9218868437227405312)))∧w=w'):=Lib.hid (fun w=>(isInf_c s 0 sw w).mono fun _ _ h=>⟨by rw [h.1];unfold infS;simp,h.2.symm⟩)
    have SC:Hid (∀ off w,Calls Tryz.prog 33 #[.float .f64 s,.int .i64 off,.int .i8 (wayI m)] w fun e w'=>e=.returned (.float .f64 (settleW s off (wayI m)))∧w=w'):=Lib.hid (fun off w=>settle_c s off (wayI m) sw sr w)
    have wm:wayI m=1 ↔ m=1:=by unfold wayI;split <;> omega
    have WM:Hid ((if wayI m=1 then 9223372036854775808 else 0)=(if m=1 then 9223372036854775808 else 0)):=Lib.hid (by simp only [wm])
    obtain ⟨Z,hZ⟩:∃ Z:Nat,(if wayI m=1 then 9223372036854775808 else 0)=Z:=⟨_,rfl⟩
    rw [hZ] at NC WM
    clear fn hf wm hZ
    by_cases z0:rg s=0
    · rw [decide_eq_true z0] at e0
      by_cases z1:rg a=0
      · rw [decide_eq_true z1] at e1
        have e1:(FloatKind.f64.format.order a 0 != some .eq)=false:=e1
        by_cases z2:neg a=neg b
        · have k2:(neg a != neg b)=false:=by rw [z2];simp
          have RS:Hid (addW a b m s=s):=Lib.hid (by unfold addW;rw [if_pos z0,if_pos ⟨z1,z2⟩])
          rw [RS.out] at AR
          obtain ⟨na,hna⟩:∃ x,neg a=x:=⟨_,rfl⟩
          obtain ⟨nb,hnb⟩:∃ x,neg b=x:=⟨_,rfl⟩
          rw [hna,hnb] at k2
          rw [hna] at sga
          rw [hnb] at sgb
          have SW:=Lib.hid sw
          clear z0 z1 z2 hna hnb sw sr ra rb fa fb ha hb hs
          cases na <;> cases nb
          all_goals first
            | (exfalso;revert k2;decide)
            | (clear k2
               go_enter Tryz.func15,Tryz.ntmps15
               go_wp2_with (first|(go_at_call 29;refine (WC.out _).mono ?_;rintro e w' ⟨rfl,rfl⟩)|(go_at_call 31;refine (FN.out _ _ (by simp)).mono ?_;rintro e w' ⟨rfl,rfl⟩)|(go_at_call 48;(with_reducible (first|refine (sga.out _).mono ?_|refine (sgb.out _).mono ?_));rintro e w' ⟨rfl,rfl⟩))
               go_ret
               exact ⟨_,rfl,Fo.mk AR.out SW.out,by repeat' (first|(with_reducible exact Below.refl _ _)|(with_reducible refine bl_alloc ?_ _)|(with_reducible refine bl_drewN ?_ _)|(with_reducible refine bl_drew ?_)|(with_reducible refine bl_set ?_ _ (by simp)))⟩)
        · have k2:(neg a != neg b)=true:=by simpa using z2
          have RS:Hid (addW a b m s=Z):=Lib.hid (by unfold addW;rw [WM.out,if_pos z0,if_neg (fun h=>z2 h.2)])
          rw [RS.out] at AR AW
          obtain ⟨na,hna⟩:∃ x,neg a=x:=⟨_,rfl⟩
          obtain ⟨nb,hnb⟩:∃ x,neg b=x:=⟨_,rfl⟩
          rw [hna,hnb] at k2
          rw [hna] at sga
          rw [hnb] at sgb
          clear z0 z1 z2 hna hnb sw sr ra rb fa fb ha hb hs
          cases na <;> cases nb
          all_goals first
            | (exfalso;revert k2;decide)
            | (clear k2
               go_enter Tryz.func15,Tryz.ntmps15
               go_wp2_with (first|(go_at_call 29;refine (WC.out _).mono ?_;rintro e w' ⟨rfl,rfl⟩)|(go_at_call 31;refine (FN.out _ _ (by simp)).mono ?_;rintro e w' ⟨rfl,rfl⟩)|(go_at_call 48;(with_reducible (first|refine (sga.out _).mono ?_|refine (sgb.out _).mono ?_));rintro e w' ⟨rfl,rfl⟩)|(go_at_call 49;refine (NC.out _).mono ?_;rintro e w' ⟨rfl,rfl⟩))
               go_ret
               exact ⟨_,rfl,Fo.mk AR.out AW.out,by repeat' (first|(with_reducible exact Below.refl _ _)|(with_reducible refine bl_alloc ?_ _)|(with_reducible refine bl_drewN ?_ _)|(with_reducible refine bl_drew ?_)|(with_reducible refine bl_set ?_ _ (by simp)))⟩)
      · rw [decide_eq_false z1] at e1
        have e1:(FloatKind.f64.format.order a 0 != some .eq)=true:=e1
        have RS:Hid (addW a b m s=Z):=Lib.hid (by unfold addW;rw [WM.out,if_pos z0,if_neg (fun h=>z1 h.1)])
        rw [RS.out] at AR AW
        clear z0 z1 sw sr ra rb fa fb ha hb hs
        go_enter Tryz.func15,Tryz.ntmps15
        go_wp2_with (first|(go_at_call 29;refine (WC.out _).mono ?_;rintro e w' ⟨rfl,rfl⟩)|(go_at_call 31;refine (FN.out _ _ (by simp)).mono ?_;rintro e w' ⟨rfl,rfl⟩)|(go_at_call 49;refine (NC.out _).mono ?_;rintro e w' ⟨rfl,rfl⟩))
        go_ret
        exact ⟨_,rfl,Fo.mk AR.out AW.out,by repeat' (first|(with_reducible exact Below.refl _ _)|(with_reducible refine bl_alloc ?_ _)|(with_reducible refine bl_drewN ?_ _)|(with_reducible refine bl_drew ?_)|(with_reducible refine bl_set ?_ _ (by simp)))⟩
    · rw [decide_eq_false z0] at e0
      clear e1
      by_cases z1:rg s=9218868437227405312
      · have RS:Hid (addW a b m s=settleW s 0 (wayI m)):=Lib.hid (by unfold addW;rw [if_neg z0,if_pos z1])
        rw [RS.out] at AR AW
        rw [decide_eq_true z1] at ii
        clear z0 z1 sw sr ra rb fa fb ha hb hs
        go_enter Tryz.func15,Tryz.ntmps15
        go_wp2_with (first|(go_at_call 29;refine (WC.out _).mono ?_;rintro e w' ⟨rfl,rfl⟩)|(go_at_call 31;refine (FN.out _ _ (by simp)).mono ?_;rintro e w' ⟨rfl,rfl⟩)|(go_at_call 50;refine (ii.out _).mono ?_;rintro e w' ⟨rfl,rfl⟩)|(go_at_call 33;refine (SC.out _ _).mono ?_;rintro e w' ⟨rfl,rfl⟩))
        go_ret
        exact ⟨_,rfl,Fo.mk AR.out AW.out,by repeat' (first|(with_reducible exact Below.refl _ _)|(with_reducible refine bl_alloc ?_ _)|(with_reducible refine bl_drewN ?_ _)|(with_reducible refine bl_drew ?_)|(with_reducible refine bl_set ?_ _ (by simp)))⟩
      · rw [decide_eq_false z1] at ii
        have sf:rg s < 9218868437227405312:=by omega
        have abA:Hid (∀ w,Calls Tryz.prog 8 #[.float .f64 a] w fun e w'=>e=.returned (.float .f64 (fabs a))∧w'=w):=Lib.hid (fun w=>abs_c a ha w)
        have abB:Hid (∀ w,Calls Tryz.prog 8 #[.float .f64 b] w fun e w'=>e=.returned (.float .f64 (fabs b))∧w'=w):=Lib.hid (fun w=>abs_c b hb w)
        have al:=abs_lt2 (a:=a) (b:=b) (by omega) (by omega)
        by_cases z2:rg a < rg b
        · rw [decide_eq_true z2] at al
          obtain ⟨t,ht,tw,tr⟩:=sub_any sw hb sf (by omega)
          obtain ⟨u,hu,uw,ur⟩:=sub_any ha tw ra tr
          have d1:∀ (t':TypeId) w,(binOp .sub t' (.float .f64 s) (.float .f64 b)).run Tryz.prog w=.ok (.float .f64 t) w:=fun t' w=>run_float_arith w .sub t' .f64 s b t ht
          have d2:∀ (t':TypeId) w,(binOp .sub t' (.float .f64 a) (.float .f64 t)).run Tryz.prog w=.ok (.float .f64 u) w:=fun t' w=>run_float_arith w .sub t' .f64 a t u hu
          have sc:Hid (∀ w,Calls Tryz.prog 34 #[.float .f64 u] w fun e w'=>e=.returned (.int .i64 (sgI u))∧w=w'):=Lib.hid (fun w=>sign_c u uw w)
          have RS:Hid (addW a b m s=settleW s (sgI u) (wayI m)):=Lib.hid (by unfold addW addE;rw [if_neg z0,if_neg z1,if_pos z2,ht,Option.getD_some,hu,Option.getD_some])
          rw [RS.out] at AR AW
          clear z0 z1 z2 sw sr ra rb fa fb ha hb hs sf ht tw tr hu uw ur
          go_enter Tryz.func15,Tryz.ntmps15
          go_wp2_with (first|(go_at_call 29;refine (WC.out _).mono ?_;rintro e w' ⟨rfl,rfl⟩)|(go_at_call 31;refine (FN.out _ _ (by simp)).mono ?_;rintro e w' ⟨rfl,rfl⟩)|(go_at_call 50;refine (ii.out _).mono ?_;rintro e w' ⟨rfl,rfl⟩)|(go_at_call 8;(with_reducible (first|refine (abA.out _).mono ?_|refine (abB.out _).mono ?_));rintro e w' ⟨rfl,hw⟩;obtain rfl:=hw)|(go_at_call 34;refine (sc.out _).mono ?_;rintro e w' ⟨rfl,rfl⟩)|(go_at_call 33;refine (SC.out _ _).mono ?_;rintro e w' ⟨rfl,rfl⟩))
          go_ret
          exact ⟨_,rfl,Fo.mk AR.out AW.out,by repeat' (first|(with_reducible exact Below.refl _ _)|(with_reducible refine bl_alloc ?_ _)|(with_reducible refine bl_drewN ?_ _)|(with_reducible refine bl_drew ?_)|(with_reducible refine bl_set ?_ _ (by simp)))⟩
        · rw [decide_eq_false z2] at al
          obtain ⟨t,ht,tw,tr⟩:=sub_any sw ha sf (by omega)
          obtain ⟨u,hu,uw,ur⟩:=sub_any hb tw rb tr
          have d1:∀ (t':TypeId) w,(binOp .sub t' (.float .f64 s) (.float .f64 a)).run Tryz.prog w=.ok (.float .f64 t) w:=fun t' w=>run_float_arith w .sub t' .f64 s a t ht
          have d2:∀ (t':TypeId) w,(binOp .sub t' (.float .f64 b) (.float .f64 t)).run Tryz.prog w=.ok (.float .f64 u) w:=fun t' w=>run_float_arith w .sub t' .f64 b t u hu
          have sc:Hid (∀ w,Calls Tryz.prog 34 #[.float .f64 u] w fun e w'=>e=.returned (.int .i64 (sgI u))∧w=w'):=Lib.hid (fun w=>sign_c u uw w)
          have RS:Hid (addW a b m s=settleW s (sgI u) (wayI m)):=Lib.hid (by unfold addW addE;rw [if_neg z0,if_neg z1,if_neg z2,ht,Option.getD_some,hu,Option.getD_some])
          rw [RS.out] at AR AW
          clear z0 z1 z2 sw sr ra rb fa fb ha hb hs sf ht tw tr hu uw ur
          go_enter Tryz.func15,Tryz.ntmps15
          go_wp2_with (first|(go_at_call 29;refine (WC.out _).mono ?_;rintro e w' ⟨rfl,rfl⟩)|(go_at_call 31;refine (FN.out _ _ (by simp)).mono ?_;rintro e w' ⟨rfl,rfl⟩)|(go_at_call 50;refine (ii.out _).mono ?_;rintro e w' ⟨rfl,rfl⟩)|(go_at_call 8;(with_reducible (first|refine (abA.out _).mono ?_|refine (abB.out _).mono ?_));rintro e w' ⟨rfl,hw⟩;obtain rfl:=hw)|(go_at_call 34;refine (sc.out _).mono ?_;rintro e w' ⟨rfl,rfl⟩)|(go_at_call 33;refine (SC.out _ _).mono ?_;rintro e w' ⟨rfl,rfl⟩))
          go_ret
          exact ⟨_,rfl,Fo.mk AR.out AW.out,by repeat' (first|(with_reducible exact Below.refl _ _)|(with_reducible refine bl_alloc ?_ _)|(with_reducible refine bl_drewN ?_ _)|(with_reducible refine bl_drew ?_)|(with_reducible refine bl_set ?_ _ (by simp)))⟩
  · have hf':(fin a && fin b)=false:=by simpa using hf
    have AR:=Lib.hid (addR_no (m:=m) hf')
    rw [hf'] at fn
    have FN:=Lib.hid fn
    have WC:=Lib.hid (fun w=>way_c m w)
    clear fn hf hf' ha hb
    go_enter Tryz.func15,Tryz.ntmps15
    go_wp2_with (first|(go_at_call 29;refine (WC.out _).mono ?_;rintro e w' ⟨rfl,rfl⟩)|(refine wp_arith .f64 a b rfl rfl rfl ?_;intro r n hr;have HR:=Lib.hid (fo_of hr (fun y hy=>(add_opt hy).1));clear hr)|(go_at_call 31;refine (FN.out _ _ (by simp)).mono ?_;rintro e w' ⟨rfl,rfl⟩))
    go_ret
    exact ⟨_,rfl,by rw [AR.out];exact HR.out,by repeat' (first|(with_reducible exact Below.refl _ _)|(with_reducible refine bl_alloc ?_ _)|(with_reducible refine bl_drewN ?_ _)|(with_reducible refine bl_drew ?_)|(with_reducible refine bl_set ?_ _ (by simp)))⟩
end Go.Proofs.YtmndoelimincdaaGreatDoor
namespace Go.Proofs.YtmndoelimincdaaGreatDoor
open Go Go.RowKit GFl Ieee
set_option maxRecDepth 100000
attribute [local go_sem] run_f64bits run_f64frombits run_neg_f64
theorem g_sign_c (x:Nat) (hx:W64 x) (w:World):Calls Tryz.prog 42 #[.float .f64 x] w fun e w'=>e=.returned (.int .i64 (sgI x))∧w=w':=by
  have k1:=gt0 hx
  have k2:=lt0 hx
  have hs:sgI x=if isn x=true then 0 else if 0 < plc x then 1 else if plc x < 0 then -1 else 0:=rfl
  go_enter Tryz.func42,Tryz.ntmps42
  go_wp2
  all_goals go_ret
  all_goals refine ⟨ret_int ?_,rfl⟩
  all_goals grind
theorem g_finite_c (x:Nat) (hx:W64 x) (hf:rg x < 9218868437227405312) (w:World):Calls Tryz.prog 39 #[.float .f64 x] w fun e w'=>e=.returned (.bool true)∧w=w':=by
  have h:=sub_self64 hx hf
  have k:∀ (t:TypeId) (w:World),(binOp .sub t (.float .f64 x) (.float .f64 x)).run Tryz.prog w=.ok (.float .f64 0) w:=fun t w=>run_float_arith w .sub t .f64 x x 0 h
  have k0:(FloatKind.f64.format.order 0 0 == some .eq)=true:=by decide +kernel
  clear h
  go_enter Tryz.func39,Tryz.ntmps39
  go_wp2
  go_ret
  exact ⟨rfl,rfl⟩
theorem g_further_c (x:Nat) (h:x + 1 < 18446744073709551616) (w:World):Calls Tryz.prog 101 #[.float .f64 x] w fun e w'=>e=.returned (.float .f64 (x + 1))∧w=w':=by
  have wa:IntKind.u64.wrap ((x:Int) + 1)=((x + 1:Nat):Int):=by rw [IntKind.wrap_u64];omega
  go_enter Tryz.func101,Tryz.ntmps101
  go_wp2
  go_ret
  exact ⟨ret_float (by first|rfl|omega|(rw [wa];rfl)),rfl⟩
theorem g_nearer_c (x:Nat) (h:x < 18446744073709551616) (h1:1≤x) (w:World):Calls Tryz.prog 102 #[.float .f64 x] w fun e w'=>e=.returned (.float .f64 (x - 1))∧w=w':=by
  have wa:IntKind.u64.wrap ((x:Int) - 1)=((x - 1:Nat):Int):=by rw [IntKind.wrap_u64];omega
  go_enter Tryz.func102,Tryz.ntmps102
  go_wp2
  go_ret
  exact ⟨ret_float (by first|rfl|omega|(rw [wa];rfl)),rfl⟩
theorem g_up_c (x:Nat) (hx:W64 x) (hn:rg x≤9218868437227405312) (w:World):Calls Tryz.prog 71 #[.float .f64 x] w fun e w'=>e=.returned (.float .f64 (stepW x true))∧w=w':=by
  have k1:=eq0 hx
  have k2:=gt0 hx
  have hl:=hx.lt
  have hr:=rg_eq x
  have hg:=neg_eq x
  have hp:=plc_eq x
  have hnx:isn x=false:=by rw [isn_eq];simp;omega
  rw [hnx] at k1 k2
  simp only [Bool.not_false,Bool.true_and] at k1 k2
  by_cases h0:rg x=0
  · have st:stepW x true=1:=by unfold stepW;rw [if_pos h0];rfl
    have hz:plc x=0:=plc_zero.2 h0
    rw [decide_eq_true hz] at k1
    rw [st]
    clear k2 hl hr hg hp hnx h0 st hz
    go_enter Tryz.func71,Tryz.ntmps71
    go_wp2
    go_ret
    exact ⟨rfl,rfl⟩
  · have hz:¬ plc x=0:=fun h=>h0 (plc_zero.1 h)
    rw [decide_eq_false hz] at k1
    have st:stepW x true=if true=!neg x then x + 1 else x - 1:=by unfold stepW;rw [if_neg h0]
    cases hs:neg x
    · rw [hs] at st hp
      have hpos:0 < plc x:=by rw [hp,if_neg (by simp)];omega
      rw [decide_eq_true hpos] at k2
      have fu:=fun w=>g_further_c x (by rw [hs] at hg;simp at hg;omega) w
      have st':stepW x true=x + 1:=st
      rw [st']
      clear hl hr hg hp hnx h0 st hz hpos st'
      go_enter Tryz.func71,Tryz.ntmps71
      go_wp2_with (first|(go_at_call 101;refine (fu _).mono ?_;rintro e w' ⟨rfl,rfl⟩))
      go_ret
      exact ⟨rfl,rfl⟩
    · rw [hs] at st hp
      have hpos:¬ 0 < plc x:=by rw [hp,if_pos rfl];omega
      rw [decide_eq_false hpos] at k2
      have ne:=fun w=>g_nearer_c x hl (by rw [hs] at hg;simp at hg;omega) w
      have st':stepW x true=x - 1:=st
      rw [st']
      clear hl hr hg hp hnx h0 st hz hpos st'
      go_enter Tryz.func71,Tryz.ntmps71
      go_wp2_with (first|(go_at_call 102;refine (ne _).mono ?_;rintro e w' ⟨rfl,rfl⟩))
      go_ret
      exact ⟨rfl,rfl⟩
theorem step_down {x:Nat} (hx:W64 x) (hn:rg x≤9218868437227405312):fneg (stepW (fneg x) true)=stepW x false:=by
  have h1:=fneg_w hx
  have h2:=fneg_rg hx
  have h3:=fneg_neg hx
  have h4:=fneg_eq hx
  have hl:=hx.lt
  have hr:=rg_eq x
  have hg:=neg_eq x
  unfold stepW
  rw [h2,h3]
  by_cases h0:rg x=0
  · rw [if_pos h0,if_pos h0];decide
  · rw [if_neg h0,if_neg h0]
    cases hs:neg x
    · rw [hs] at h4 hg
      simp only [Bool.not_false,Bool.not_true,if_neg (Bool.false_ne_true)] at h4 ⊢
      have hw:W64 (fneg x - 1):=W64.mk (by rw [h4];simp at hg;omega)
      rw [if_neg (by decide),fneg_eq hw,neg_eq,h4]
      simp at hg
      rw [decide_eq_true (by omega),if_pos rfl];omega
    · rw [hs] at h4 hg
      simp only [Bool.not_true,Bool.not_false,if_true] at h4 ⊢
      simp at hg
      have hf:fneg x=x - 9223372036854775808:=h4
      have hw:W64 (fneg x + 1):=W64.mk (by rw [hf];omega)
      rw [fneg_eq hw,neg_eq,hf,decide_eq_false (by omega),if_neg (by simp)];omega
theorem g_down_c (x:Nat) (hx:W64 x) (hn:rg x≤9218868437227405312) (w:World):Calls Tryz.prog 70 #[.float .f64 x] w fun e w'=>e=.returned (.float .f64 (stepW x false))∧w=w':=by
  have up:=fun w=>g_up_c (fneg x) (fneg_w hx) (by rw [fneg_rg hx];exact hn) w
  rw [← step_down hx hn]
  clear hx hn
  go_enter Tryz.func70,Tryz.ntmps70
  go_wp2_with (first|(go_at_call 71;refine (up _).mono ?_;rintro e w' ⟨rfl,rfl⟩))
  go_ret
  exact ⟨rfl,rfl⟩
end Go.Proofs.YtmndoelimincdaaGreatDoor
namespace Go.Proofs.YtmndoelimincdaaGreatDoor
open Go Go.RowKit GFl Ieee
set_option maxRecDepth 100000
set_option linter.unusedSimpArgs false
attribute [local go_sem] run_f64bits run_f64frombits run_neg_f64
theorem g_fin_c (x:Nat) (hx:W64 x) (w:World):Calls Tryz.prog 39 #[.float .f64 x] w fun e w'=>e=.returned (.bool (fin x))∧∃ n,w'=w.drewN n:=by
  by_cases hf:rg x < 9218868437227405312
  · refine (g_finite_c x hx hf w).mono ?_
    rintro e w' ⟨rfl,rfl⟩
    exact ⟨by rw [fin_t hf],0,rfl⟩
  · have s0:floatBits .sub .f64 x x=none:=sub_self_no hx (by omega)
    have S0:=Lib.hid s0
    have FF:=Lib.hid (fin_f (x:=x) (by omega))
    clear s0 hf hx
    go_enter Tryz.func39,Tryz.ntmps39
    go_wp2_with (first
      | (refine wp_arith .f64 x x rfl rfl rfl ?_;intro r n hr;rw [S0.out] at hr;have t0:(FloatKind.f64.format.order r 0 == some .eq)=false:=by
           have h1:=isn_eq r
           have h2:9218868437227405312 < rg r:=by have:=hr.1;simp only [FloatKind.format] at this;rw [d_inf] at this;exact this
           rw [eq0 hr.2,h1,decide_eq_true h2];rfl
         clear hr))
    go_ret
    exact ⟨by rw [FF.out];rfl,_,rfl⟩
theorem g_sideX_c (x:Nat) (off m:Int) (hx:W64 x) (hn:rg x < 9218868437227405312) (h0:rg x ≠ 0) (w:World) :
    Calls Tryz.prog 41 #[.float .f64 x,.int .i64 off,.int .i8 m] w fun e w'=>e=.returned (.float .f64 (settleW x off (wayI m)))∧w=w':=by
  have sg:∀ w,Calls Tryz.prog 48 #[.float .f64 x] w fun e w'=>e=.returned (.bool (neg x))∧w=w':=fun w=>(signbit_c x hx w).mono fun _ _ h=>⟨h.1,h.2.symm⟩
  have UP:=Lib.hid (fun w=>g_up_c x hx (by omega) w)
  have DN:=Lib.hid (fun w=>g_down_c x hx (by omega) w)
  have n0:(FloatKind.f64.format.order x 0 != some .eq)=true:=by rw [nez hx (by omega),decide_eq_false h0];rfl
  have RS:Hid (settleW x off (wayI m)=if (off < 0∧modeW x (wayI m)=1) ∨ (0 < off∧modeW x (wayI m)=2) then stepW x (decide (0 < off)) else x):=Lib.hid (by unfold settleW;rw [if_neg (by omega)])
  have MW:Hid (modeW x (wayI m)=if m=3 then (if neg x then 2 else 1) else wayI m):=Lib.hid (by
    unfold modeW
    have:wayI m=3 ↔ m=3:=by unfold wayI;split <;> omega
    simp only [this])
  have WY:Hid (∀ i,(i=1 ∨ i=2)→(wayI m=i ↔ m=i)):=Lib.hid (fun i hi=>by unfold wayI;split <;> omega)
  obtain ⟨ns,hn⟩:∃ b,neg x=b:=⟨_,rfl⟩
  rw [hn] at sg MW
  have SG:=Lib.hid sg
  clear sg hx hn h0
  have key:∀ v:Nat,(v=if (off < 0∧(m=1 ∨ m=3∧ns=false)) then stepW x false else if (0 < off∧(m=2 ∨ m=3∧ns=true)) then stepW x true else x)→v=settleW x off (wayI m):=fun v hv=>by
    have hM1:(if m=3 then (if ns then 2 else 1) else wayI m)=1 ↔ (m=1 ∨ m=3∧ns=false):=by
      by_cases m3:m=3
      · rw [if_pos m3];cases ns <;> simp [m3]
      · rw [if_neg m3,WY.out 1 (Or.inl rfl)];simp [m3]
    have hM2:(if m=3 then (if ns then 2 else 1) else wayI m)=2 ↔ (m=2 ∨ m=3∧ns=true):=by
      by_cases m3:m=3
      · rw [if_pos m3];cases ns <;> simp [m3]
      · rw [if_neg m3,WY.out 2 (Or.inr rfl)];simp [m3]
    rw [hv,RS.out,MW.out]
    simp only [hM1,hM2]
    by_cases c1:off < 0∧(m=1 ∨ m=3∧ns=false)
    · rw [if_pos c1,if_pos (Or.inl c1),decide_eq_false (by omega)]
    · rw [if_neg c1]
      by_cases c2:0 < off∧(m=2 ∨ m=3∧ns=true)
      · rw [if_pos c2,if_pos (Or.inr c2),decide_eq_true c2.1]
      · rw [if_neg c2,if_neg (by rintro (h|h);exact c1 h;exact c2 h)]
  have k1:∃ b,decide (off < 0)=b:=⟨_,rfl⟩
  have k2:∃ b,decide (0 < off)=b:=⟨_,rfl⟩
  have j1:∃ b,(m == 1)=b:=⟨_,rfl⟩
  have j2:∃ b,(m == 2)=b:=⟨_,rfl⟩
  have j3:∃ b,(m == 3)=b:=⟨_,rfl⟩
  obtain ⟨t1,k1⟩:=k1
  obtain ⟨t2,k2⟩:=k2
  obtain ⟨b1,j1⟩:=j1
  obtain ⟨b2,j2⟩:=j2
  obtain ⟨b3,j3⟩:=j3
  have KEY:Hid (∀ v:Nat,v=(if (t1 && (b1 || (b3 && !ns)))=true then stepW x false else if (t2 && (b2 || (b3 && ns)))=true then stepW x true else x)→v=settleW x off (wayI m)):=Lib.hid (fun v hv=>key v (by
    rw [hv,← k1,← k2,← j1,← j2,← j3]
    simp only [Bool.and_eq_true,Bool.or_eq_true,decide_eq_true_eq,beq_iff_eq,Bool.not_eq_true']))
  clear key RS MW WY
  cases t1 <;> cases t2 <;> cases b1 <;> cases b2 <;> cases b3 <;> cases ns
  all_goals
    go_enter Tryz.func41,Tryz.ntmps41
    go_wp2_with (first|(go_at_call 48;refine (SG.out _).mono ?_;rintro e w' ⟨rfl,rfl⟩)|(go_at_call 71;refine (UP.out _).mono ?_;rintro e w' ⟨rfl,rfl⟩)|(go_at_call 70;refine (DN.out _).mono ?_;rintro e w' ⟨rfl,rfl⟩))
    go_ret
    exact ⟨ret_float (KEY.out _ rfl),rfl⟩
end Go.Proofs.YtmndoelimincdaaGreatDoor
namespace Go.Proofs.YtmndoelimincdaaGreatDoor
open Go Go.RowKit GFl Ieee
set_option maxRecDepth 100000
set_option linter.unusedSimpArgs false
attribute [local go_sem] run_f64bits run_f64frombits run_neg_f64
theorem frow3 (x y z:Nat) (w:World) (t:TypeId):FRow (w.alloc (.cells #[.float .f64 x,.float .f64 y,.float .f64 z] t)) w.heap.size [x,y,z]:=by
  intro k hk
  have:k=0 ∨ k=1 ∨ k=2:=by simp at hk;omega
  rcases this with rfl|rfl|rfl
  all_goals exact kb_cell (w:=w.alloc (.cells #[.float .f64 x,.float .f64 y,.float .f64 z] t)) Array.getElem?_push_size rfl
theorem sgI_rng (x:Nat):-1≤sgI x∧sgI x≤1:=by unfold sgI;(repeat' split) <;> omega
theorem sgI_mul (x y:Nat):wrap64 (sgI x * sgI y)=sgI x * sgI y:=by
  obtain ⟨h1,h2⟩:=sgI_rng x
  obtain ⟨h3,h4⟩:=sgI_rng y
  have a1:sgI x=-1 ∨ sgI x=0 ∨ sgI x=1:=by omega
  rcases a1 with h|h|h <;> rw [h] <;> unfold wrap64 <;> omega
set_option maxHeartbeats 4000000 in
theorem rdiv_p (a b q t:Nat) (m:Int) (ha:W64 a) (hb:W64 b) (fa:fin a=true) (fb:fin b=true) (za:rg a ≠ 0) (zb:rg b ≠ 0) (pa:plainF a=true) (pb:plainF b=true) (pq:plainF q=true) (hq:double.div a b=some q) (qw:W64 q) (qr:rg q≤9218868437227405312) (ht:double.fma (fneg q) b a=some t) (tw:W64 t) (w:World) :
    Calls Tryz.prog 21 #[.float .f64 a,.float .f64 b,.int .i8 m] w fun e w'=>e=.returned (.float .f64 (settleW q (sgI t * sgI b) (wayI m)))∧Below w.heap.size w w':=by
  have ra:rg a < 9218868437227405312:=by unfold fin at fa;simpa using fa
  have rb:rg b < 9218868437227405312:=by unfold fin at fb;simpa using fb
  have fn:∀ (w:World) (bl:Nat),bl=w.heap.size→Calls Tryz.prog 31 #[.slice (some ⟨bl,0,none⟩) 2 2] (w.alloc (.cells #[.float .f64 a,.float .f64 b] 22)) fun e w'=>e=.returned (.bool true)∧w.alloc (.cells #[.float .f64 a,.float .f64 b] 22)=w':=fun w bl h=>h ▸
    (finite_c _ [a,b] (by simp) (by simp [ha,hb]) _ (frow2 a b w _)).mono fun _ _ h=>⟨by rw [h.1];simp [fa,fb],h.2⟩
  have pl:∀ (w:World) (bl:Nat),bl=w.heap.size→Calls Tryz.prog 32 #[.slice (some ⟨bl,0,none⟩) 3 3] (w.alloc (.cells #[.float .f64 a,.float .f64 b,.float .f64 q] 22)) fun e w'=>e=.returned (.bool true)∧w.alloc (.cells #[.float .f64 a,.float .f64 b,.float .f64 q] 22)=w':=fun w bl h=>h ▸
    (plain_c _ [a,b,q] (by simp) (by simp [ha,hb,qw]) _ (frow3 a b q w _)).mono fun _ _ h=>⟨by rw [h.1];simp [pa,pb,pq],h.2⟩
  have FN:=Lib.hid fn
  have PL:=Lib.hid pl
  have d0:∀ (t':TypeId) w,(binOp .quo t' (.float .f64 a) (.float .f64 b)).run Tryz.prog w=.ok (.float .f64 q) w:=fun t' w=>run_float_arith w .quo t' .f64 a b q hq
  have e0:(FloatKind.f64.format.order a 0 == some .eq)=false:=by rw [eqz ha (by omega),decide_eq_false za]
  have e1:(FloatKind.f64.format.order b 0 == some .eq)=false:=by rw [eqz hb (by omega),decide_eq_false zb]
  have D:=run_fma64 ht
  have WC:=Lib.hid (fun w=>way_c m w)
  have SC:=Lib.hid (fun off w=>settle_c q off (wayI m) qw qr w)
  have S1:=Lib.hid (fun w=>sign_c t tw w)
  have S2:=Lib.hid (fun w=>sign_c b hb w)
  have wm:=sgI_mul t b
  obtain ⟨x,hx⟩:∃ x,sgI t=x:=⟨_,rfl⟩
  obtain ⟨y,hy⟩:∃ y,sgI b=y:=⟨_,rfl⟩
  rw [hx] at S1
  rw [hy] at S2
  rw [hx,hy] at wm
  rw [hx,hy]
  clear fn pl ha hb fa fb za zb pa pb pq hq qw qr ht tw ra rb hx hy
  go_enter Tryz.func21,Tryz.ntmps21
  go_wp2_with (first|(go_at_call 29;refine (WC.out _).mono ?_;rintro e w' ⟨rfl,rfl⟩)|(go_at_call 31;refine (FN.out _ _ (by simp)).mono ?_;rintro e w' ⟨rfl,rfl⟩)|(go_at_call 32;refine (PL.out _ _ (by simp)).mono ?_;rintro e w' ⟨rfl,rfl⟩)|(go_at_call 34;(with_reducible (first|refine (S1.out _).mono ?_|refine (S2.out _).mono ?_));rintro e w' ⟨rfl,rfl⟩)|(go_at_call 33;refine (SC.out _ _).mono ?_;rintro e w' ⟨rfl,rfl⟩))
  go_ret
  exact ⟨rfl,by repeat' (first|(with_reducible exact Below.refl _ _)|(with_reducible refine bl_alloc ?_ _)|(with_reducible refine bl_drewN ?_ _)|(with_reducible refine bl_drew ?_)|(with_reducible refine bl_set ?_ _ (by simp)))⟩
theorem fo_eq {o:Option Nat} {y r:Nat} (h:Fo o r) (e:o=some y):r=y:=by subst e;exact h.2
theorem radd_t {a b c:Nat} {m:Int} (ha:W64 a) (hb:W64 b) (h:addR a b m=some c) (w:World):Calls Tryz.prog 15 #[.float .f64 a,.float .f64 b,.int .i8 m] w fun e w'=>e=.returned (.float .f64 c)∧Below w.heap.size w w':=by
  refine (radd_c a b m ha hb w).mono ?_
  rintro e w' ⟨r,rfl,hr,hb⟩
  exact ⟨by rw [fo_eq hr h],hb⟩
set_option maxHeartbeats 4000000 in
theorem awake03_of (w:World) (hI:∀ w',Below w.heap.size w w'→Calls Tryz.prog 12 #[.int .i64 9007199254740993,.int .i8 2] w' fun e w2=>e=.returned (.float .f64 4845873199050653697)∧Below w'.heap.size w' w2) :
    Calls Tryz.prog 14 #[] w fun e w'=>e=.returned (.bool true)∧Below w.heap.size w w':=by
  have HI:=Lib.hid hI
  have A1:=Lib.hid (fun w=>radd_t (a:=4607182418800017408) (b:=13830554455654793216) (c:=9223372036854775808) (m:=1) (w_const (by decide)) (w_const (by decide)) (by decide +kernel) w)
  have A2:=Lib.hid (fun w=>radd_t (a:=4607182418800017408) (b:=4368491638549381120) (c:=4607182418800017409) (m:=2) (w_const (by decide)) (w_const (by decide)) (by decide +kernel) w)
  have A3:=Lib.hid (fun w=>radd_t (a:=4607182418800017408) (b:=4368491638549381120) (c:=4607182418800017408) (m:=0) (w_const (by decide)) (w_const (by decide)) (by decide +kernel) w)
  have A4:=Lib.hid (fun w=>radd_t (a:=4607182418800017408) (b:=13830554455654793216) (c:=0) (m:=2) (w_const (by decide)) (w_const (by decide)) (by decide +kernel) w)
  have dq:double.div 4607182418800017408 4613937818241073152=some 4599676419421066581:=by decide +kernel
  have df:∃ t,double.fma (fneg 4599676419421066581) 4613937818241073152 4607182418800017408=some t∧W64 t∧sgI t=1:=by
    refine ⟨(double.fma (fneg 4599676419421066581) 4613937818241073152 4607182418800017408).getD 0,?_,?_,?_⟩ <;> first|decide +kernel|exact w_const (by decide +kernel)
  obtain ⟨t,ht,tw,tg⟩:=df
  have D1:Hid (∀ w,Calls Tryz.prog 21 #[.float .f64 4607182418800017408,.float .f64 4613937818241073152,.int .i8 2] w fun e w'=>e=.returned (.float .f64 4599676419421066582)∧Below w.heap.size w w'):=Lib.hid (fun w =>
    (rdiv_p 4607182418800017408 4613937818241073152 4599676419421066581 t 2 (w_const (by decide)) (w_const (by decide)) (by decide) (by decide) (by decide) (by decide) (by decide) (by decide) (by decide) dq (w_const (by decide)) (by decide) ht tw w).mono (fun e w' h=>⟨by rw [h.1,tg];exact ret_float (by decide +kernel),h.2⟩))
  have D2:Hid (∀ w,Calls Tryz.prog 21 #[.float .f64 4607182418800017408,.float .f64 4613937818241073152,.int .i8 1] w fun e w'=>e=.returned (.float .f64 4599676419421066581)∧Below w.heap.size w w'):=Lib.hid (fun w =>
    (rdiv_p 4607182418800017408 4613937818241073152 4599676419421066581 t 1 (w_const (by decide)) (w_const (by decide)) (by decide) (by decide) (by decide) (by decide) (by decide) (by decide) (by decide) dq (w_const (by decide)) (by decide) ht tw w).mono (fun e w' h=>⟨by rw [h.1,tg];exact ret_float (by decide +kernel),h.2⟩))
  have sq:double.sqrt 4616189618054758400=some 4611686018427387904:=by decide +kernel
  have sf:double.fma (fneg 4611686018427387904) 4611686018427387904 4616189618054758400=some 0:=by decide +kernel
  have S1:Hid (∀ w,Calls Tryz.prog 10 #[.float .f64 4616189618054758400,.int .i8 1] w fun e w'=>e=.returned (.float .f64 4611686018427387904)∧Below w.heap.size w w'):=Lib.hid (fun w =>
    (rsqrt_c 1 (w_const (by decide)) (by decide) (by decide) (by decide) sq (w_const (by decide)) (by decide) sf (w_const (by decide)) w).mono (fun e w' h=>⟨by rw [h.1];exact ret_float (by decide +kernel),h.2⟩))
  have sg1:Hid (∀ w,Calls Tryz.prog 48 #[.float .f64 9223372036854775808] w fun e w'=>e=.returned (.bool true)∧w=w'):=Lib.hid (fun w=>(signbit_c _ (w_const (by decide)) w).mono fun _ _ h=>⟨h.1,h.2.symm⟩)
  have sg2:Hid (∀ w,Calls Tryz.prog 48 #[.float .f64 0] w fun e w'=>e=.returned (.bool false)∧w=w'):=Lib.hid (fun w=>(signbit_c _ (w_const (by decide)) w).mono fun _ _ h=>⟨h.1,h.2.symm⟩)
  have m1:∀ (t':TypeId) w,(binOp .mul t' (.float .f64 4611686018427387904) (.float .f64 4368491638549381120)).run Tryz.prog w=.ok (.float .f64 4372995238176751616) w:=fun t' w=>run_float_arith w .mul t' .f64 _ _ _ (by decide +kernel)
  have m2:∀ (t':TypeId) w,(binOp .add t' (.float .f64 4607182418800017408) (.float .f64 4372995238176751616)).run Tryz.prog w=.ok (.float .f64 4607182418800017409) w:=fun t' w=>run_float_arith w .add t' .f64 _ _ _ (by decide +kernel)
  clear dq ht tw tg sq sf hI
  have B0:=Lib.hid (Below.refl w.heap.size w)
  go_enter Tryz.func14,Tryz.ntmps14
  go_wp2_with (first
    | (go_at_call 15;(with_reducible (first|refine (A1.out _).mono ?_|refine (A2.out _).mono ?_|refine (A3.out _).mono ?_|refine (A4.out _).mono ?_));rintro e w1 ⟨rfl,hb⟩;have B0:=Lib.hid (bl_then B0.out hb);clear hb)
    | (go_at_call 21;(with_reducible (first|refine (D1.out _).mono ?_|refine (D2.out _).mono ?_));rintro e w1 ⟨rfl,hb⟩;have B0:=Lib.hid (bl_then B0.out hb);clear hb)
    | (go_at_call 10;(with_reducible refine (S1.out _).mono ?_);rintro e w1 ⟨rfl,hb⟩;have B0:=Lib.hid (bl_then B0.out hb);clear hb)
    | (go_at_call 48;(with_reducible (first|refine (sg1.out _).mono ?_|refine (sg2.out _).mono ?_));rintro e w1 ⟨rfl,rfl⟩)
    | (go_at_call 12;(with_reducible refine (HI.out _ (by first|exact B0.out|exact bl_drew B0.out|exact bl_drewN B0.out _)).mono ?_);rintro e w1 ⟨rfl,hb⟩;have B0:=Lib.hid (bl_then B0.out hb);clear hb))
  go_ret
  exact ⟨ret_bool (by decide +kernel),by first|exact B0.out|exact bl_drewN B0.out _⟩
end Go.Proofs.YtmndoelimincdaaGreatDoor
namespace Go.Proofs.YtmndoelimincdaaGreatDoor
open Go Go.RowKit GFl
set_option maxRecDepth 100000
theorem jt1:IsJoin false 4503599627370497 1 4845873199050653697:=⟨w_const (by decide),by decide,by decide,by
  rw [show rg 4845873199050653697=4845873199050653697 from by decide,mg_norm (by decide)];decide +kernel⟩
theorem jt2:joinOk 4503599627370497 1:=Or.inr ⟨by decide,by decide,by decide,by decide +kernel⟩
theorem join_r (w:World):Calls Tryz.prog 123 #[.agg #[.bool false,.int .u64 4503599627370497,.int .i64 1]] w fun e w'=>e=.returned (.tuple #[.float .f64 4845873199050653697,.bool true])∧Below w.heap.size w w':=by
  refine (join_c false 4503599627370497 1 (by decide) (by decide) (by decide) w).mono ?_
  rintro e w' ⟨z,ok,rfl,h1,h2,_,hb⟩
  have h:=h1.2 jt2
  subst h
  rw [(h2 rfl).unique jt1]
  exact ⟨rfl,hb⟩
end Go.Proofs.YtmndoelimincdaaGreatDoor
namespace Nv
def Lm (l:List Int):Prop:=∀ d ∈ l,0≤d∧d < 18446744073709551616
def lv:List Int→Int
  | []=>0
  | d :: l=>d + 18446744073709551616 * lv l
def ls (n:Nat):Int:=18446744073709551616 ^ n
theorem ls_zero:ls 0=1:=rfl
theorem ls_succ (n:Nat):ls (n + 1)=18446744073709551616 * ls n:=by unfold ls;rw [Int.pow_succ,Int.mul_comm]
theorem ls_add (a b:Nat):ls (a + b)=ls a * ls b:=Int.pow_add ..
theorem ls_pos (n:Nat):0 < ls n:=Int.pow_pos (by decide)
theorem Lm.nil:Lm []:=fun _ h=>by cases h
theorem Lm.cons {d:Int} {l:List Int}:Lm (d :: l) ↔ (0≤d∧d < 18446744073709551616)∧Lm l:=by simp [Lm]
theorem Lm.app {a b:List Int}:Lm (a ++ b) ↔ Lm a∧Lm b:=by
  unfold Lm
  simp only [List.mem_append]
  exact ⟨fun h=>⟨fun d hd=>h d (.inl hd),fun d hd=>h d (.inr hd)⟩,fun h d hd=>hd.elim (h.1 d) (h.2 d)⟩
theorem Lm.take {l:List Int} (h:Lm l) (n:Nat):Lm (l.take n):=fun d hd=>h d (List.mem_of_mem_take hd)
theorem Lm.set {l:List Int} (h:Lm l) {i:Nat} {d:Int} (h0:0≤d) (h1:d < 18446744073709551616):Lm (l.set i d):=fun x hx=>by
  rcases List.mem_or_eq_of_mem_set hx with hx|rfl
  · exact h x hx
  · exact ⟨h0,h1⟩
theorem Lm.at {l:List Int} (h:Lm l) {i:Nat} (hi:i < l.length):0≤l[i]∧l[i] < 18446744073709551616:=h _ (List.getElem_mem hi)
theorem Lm.zeros (n:Nat):Lm (List.replicate n 0):=fun d hd=>by rw [List.eq_of_mem_replicate hd];exact ⟨by decide,by decide⟩
theorem lv_nil:lv []=0:=rfl
theorem lv_cons (d:Int) (l:List Int):lv (d :: l)=d + 18446744073709551616 * lv l:=rfl
theorem lv_app (a b:List Int):lv (a ++ b)=lv a + ls a.length * lv b:=by
  induction a with
  | nil=>simp [lv,ls_zero]
  | cons d a ih=>rw [List.cons_append,lv_cons,lv_cons,ih,List.length_cons,ls_succ,Int.mul_add,Int.mul_assoc,Int.add_assoc]
theorem lv_nonneg {l:List Int} (h:Lm l):0≤lv l:=by
  induction l with
  | nil=>exact Int.le_refl _
  | cons d l ih=>have:=Lm.cons.1 h;have:=ih this.2;rw [lv_cons];omega
theorem lv_lt {l:List Int} (h:Lm l):lv l < ls l.length:=by
  induction l with
  | nil=>decide
  | cons d l ih=>have:=Lm.cons.1 h;have:=ih this.2;rw [lv_cons,List.length_cons,ls_succ];omega
theorem lv_take_succ {l:List Int} {i:Nat} (h:i < l.length):lv (l.take (i + 1))=lv (l.take i) + ls i * l[i]:=by
  rw [List.take_succ_eq_append_getElem h,lv_app,lv_cons,lv_nil,List.length_take,Nat.min_eq_left (by omega)];simp
def Nl (l:List Int):Prop:=Lm l∧∀ h:l ≠ [],l.getLast h ≠ 0
theorem Nl.nil:Nl []:=⟨Lm.nil,fun h=>absurd rfl h⟩
theorem Nl.lower {l:List Int} (h:Nl l) (h0:l ≠ []):ls (l.length - 1)≤lv l:=by
  obtain ⟨m,d,rfl⟩:∃ m d,l=m ++ [d]:=⟨l.dropLast,l.getLast h0,(List.dropLast_concat_getLast h0).symm⟩
  have hd:=Lm.app.1 h.1
  have h1:=h.2 (by simp)
  rw [List.getLast_concat] at h1
  have h2:=(Lm.cons.1 hd.2).1
  have h3:=lv_nonneg hd.1
  rw [lv_app,lv_cons,lv_nil,List.length_append,List.length_singleton,Nat.add_sub_cancel]
  have h4:ls m.length * 1≤ls m.length * (d + 18446744073709551616 * 0):=Int.mul_le_mul_of_nonneg_left (by omega) (Int.le_of_lt (ls_pos _))
  omega
theorem Nl.zero {l:List Int} (h:Nl l):lv l=0 ↔ l=[]:=by
  constructor
  · intro e
    apply Classical.byContradiction
    intro h0
    have:=h.lower h0
    have:=ls_pos (l.length - 1)
    omega
  · rintro rfl;rfl
theorem ls_le {a b:Nat} (h:a≤b):ls a≤ls b:=by
  obtain ⟨c,rfl⟩:∃ c,b=a + c:=⟨b - a,by omega⟩
  rw [ls_add]
  have:=ls_pos a
  have h1:ls a * 1≤ls a * ls c:=Int.mul_le_mul_of_nonneg_left (by have:=ls_pos c;omega) (Int.le_of_lt this)
  omega
theorem Nl.len_lt {a b:List Int} (ha:Lm a) (hb:Nl b) (h:a.length < b.length):lv a < lv b:=by
  have h1:=lv_lt ha
  have h2:=hb.lower (by intro e;rw [e] at h;simp at h)
  have h3:=ls_le (show a.length≤b.length - 1 by omega)
  omega
def spl:List Int→List Int
  | []=>[]
  | d :: l=>d % 4294967296 :: d / 4294967296 :: spl l
theorem spl_app (a b:List Int):spl (a ++ b)=spl a ++ spl b:=by
  induction a with
  | nil=>rfl
  | cons d a ih=>show _ :: _ :: spl (a ++ b)=_ :: _ :: (spl a ++ spl b);rw [ih]
theorem spl_len (l:List Int):(spl l).length=2 * l.length:=by
  induction l with
  | nil=>rfl
  | cons d l ih=>show (spl l).length + 1 + 1=2 * (l.length + 1);omega
theorem spl_dg {l:List Int} (h:Lm l):Dg (spl l):=by
  induction l with
  | nil=>exact Dg.nil
  | cons d l ih =>
    have:=Lm.cons.1 h
    show Dg (_ :: _ :: spl l)
    rw [Dg.cons,Dg.cons]
    exact ⟨by omega,by omega,ih this.2⟩
theorem spl_nv (l:List Int):nv (spl l)=lv l:=by
  induction l with
  | nil=>rw [show spl []=[] from rfl,nv_nil];rfl
  | cons d l ih =>
    rw [show spl (d :: l)=d % 4294967296 :: d / 4294967296 :: spl l from rfl,nv_cons,nv_cons,ih,lv_cons]
    omega
theorem Nl.len {l:List Int} (h:Nl l) {m:Nat} (hb:lv l < ls m):l.length≤m:=by
  rcases Nat.lt_or_ge m l.length with h1|h1
  · have h0:l ≠ []:=fun e=>by rw [e] at h1;simp at h1
    have:=h.lower h0
    have:=ls_le (show m≤l.length - 1 by omega)
    omega
  · exact h1
attribute [irreducible] ls lv
end Nv
