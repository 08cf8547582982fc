import Derived.Test.YtalhpbilkhdfhaaDoorTRTj
import Derived.Test.YtalhpbilkhdfhaaDoorTRTg
import Derived.Deep.DeepCutAuto
import Derived.Deep.LoopGhost
import Derived.Deep.CutBlock
import Derived.Test.YtalhpbilkhdfhaaDoorTRTf
namespace Go.Proofs.YtalhpbilkhdfhaaDoor
open Go Go.RowKit Nv
open XBn
set_option maxRecDepth 100000
set_option linter.unusedSimpArgs false
set_option maxHeartbeats 2000000 in
theorem dfloat_odd {W:World} (g:Bool) (s z:Nat) (x b m:Int) (h0:0 < s) (hx:-2000≤x) (hb:x + b≤1024) (hb0:0≤b) (hx2:x≤2000)
    (hT:∀ w,Below W.heap.size W w→Calls Tryd.prog 78 #[.int .u64 (s:Int)] w fun e w'=>e=.returned (.int .i64 0)∧w'=w)
    (hL:∀ w,Calls Tryd.prog 72 #[.int .u64 (s:Int)] w fun e w'=>e=.returned (.int .i64 b)∧w'=w)
    (hJ:∀ w,Calls Tryd.prog 79 #[.agg #[.bool g,.int .u64 (s:Int),.int .i64 x]] w fun e w'=>e=.returned (.tuple #[.float .f64 z,.bool true])∧Below w.heap.size w w') :
    Calls Tryd.prog 57 #[.bool g,.int .u64 (s:Int),.int .i64 x,.int .i8 m] W fun e w'=>e=.returned (.float .f64 z)∧Below W.heap.size W w':=by
  have B0:=Lib.hid (bl_alloc (Below.refl W.heap.size W) (.cells #[.bool g,.int .u64 0,.int .i64 0] 84))
  have K0:=Lib.hid (kb_new (w:=W) (o:=.cells #[.bool g,.int .u64 0,.int .i64 0] 84) (Below.refl _ _))
  have TC:=Lib.hid hT
  have LC:=Lib.hid hL
  have JC:=Lib.hid hJ
  have k1:decide ((0:Int) < (s:Int))=true:=decide_eq_true (by omega)
  have k2:decide (0 < s)=true:=decide_eq_true h0
  have w1:wrap64 x=x:=by unfold wrap64;omega
  have w2:wrap64 (b + x)=b + x:=by clear w1;unfold wrap64;omega
  have k3:decide ((1024:Int) < b + x)=false:=by clear w1 w2;exact decide_eq_false (by omega)
  have d0:=kb_cell K0.out (i:=0) rfl
  have d1:=kb_cell K0.out (i:=1) rfl
  have d2:=kb_cell K0.out (i:=2) rfl
  have f0:=kb_frozen K0.out 0
  have f1:=kb_frozen K0.out 1
  have f2:=kb_frozen K0.out 2
  clear hT hL hJ h0 hx hb hb0 hx2
  go_enter Tryd.func57,Tryd.ntmps57
  go_upto_region 5 with (first
    | (go_at_call 78;(with_reducible refine (TC.out _ B0.out).mono ?_);rintro e w' ⟨rfl,hw⟩;obtain rfl:=hw.symm;clear hw))
  simp only [w1]
  have B1:=Lib.hid (bl_alloc (Below.refl W.heap.size W) (.cells #[.bool g,.int .u64 (s:Int),.int .i64 x] 84))
  have K1:=Lib.hid (kb_new (w:=W) (o:=.cells #[.bool g,.int .u64 (s:Int),.int .i64 x] 84) (Below.refl _ _))
  obtain ⟨w3,hw3⟩:∃ w,W.alloc (.cells #[.bool g,.int .u64 (s:Int),.int .i64 x] 84)=w:=⟨_,rfl⟩
  rw [hw3] at B1 K1
  simp only [hw3]
  clear hw3 d0 d1 d2 f0 f1 f2 K0 B0
  have e0:=kb_cell K1.out (i:=0) rfl
  have e1:=kb_cell K1.out (i:=1) rfl
  have e2:=kb_cell K1.out (i:=2) rfl
  go_quiet ((go_at_call 72;exact Calls.quiet_of_same (LC.out _)))
  go_wp2_with (go_at_call 79;(with_reducible refine (JC.out _).mono ?_);rintro e w5 ⟨rfl,hb⟩;have HB:=Lib.hid (bl_then (bl_drewN B1.out _) hb);clear hb)
  go_ret
  exact ⟨rfl,HB.out⟩
end Go.Proofs.YtalhpbilkhdfhaaDoor
namespace Go.Proofs.YtalhpbilkhdfhaaDoor
open Go Go.RowKit Nv
open Go.Proofs.YtalhpbilkhdfhaaDoorW.PrintWords (Kd)
open XBn
set_option maxRecDepth 100000
set_option linter.unusedSimpArgs false
set_option maxHeartbeats 4000000 in
theorem dround_t {W:World} (ad:Addr) (c:Nat) (h1c:1≤c) (hC:Kd.C (Kd.int .u64) W (some ad) 1 [9007199254740993]) (hc:W.cell? ad=some (.int .u64 9007199254740993))
    (hT:∀ w,Below W.heap.size W w→Calls Tryd.prog 78 #[.int .u64 4503599627370497] w fun e w'=>e=.returned (.int .i64 0)∧w'=w)
    (hL:∀ w,Calls Tryd.prog 72 #[.int .u64 9007199254740993] w fun e w'=>e=.returned (.int .i64 54)∧w'=w)
    (hL2:∀ w,Calls Tryd.prog 72 #[.int .u64 4503599627370497] w fun e w'=>e=.returned (.int .i64 53)∧w'=w)
    (hJ:∀ w,Calls Tryd.prog 79 #[.agg #[.bool false,.int .u64 4503599627370497,.int .i64 1]] w fun e w'=>e=.returned (.tuple #[.float .f64 4845873199050653697,.bool true])∧Below w.heap.size w w') :
    Calls Tryd.prog 31 #[.agg #[.bool false,.slice (some ad) 1 c,.int .i64 0],.int .i8 2] W fun e w'=>e=.returned (.tuple #[.float .f64 4845873199050653697,.int .i64 0])∧Below W.heap.size W w':=by
  have RC:Hid (∀ w,Below W.heap.size W w→Calls Tryd.prog 48 #[.agg #[.bool false,.slice (some ad) 1 c,.int .i64 0]] w fun e w'=>e=.returned (.bool true)∧Below w.heap.size w w'):=Lib.hid (fun w h=>(dyad_Right.calls false (some ad) c [9007199254740993] 0 true w (Kd.C_below hC h) h1c (by decide +kernel)).mono fun e w' ⟨h1,h2⟩=>⟨h1,by first|exact h2.below|exact h2⟩)
  have WC:Hid (∀ w,Below W.heap.size W w→Calls Tryd.prog 43 #[.agg #[.bool false,.slice (some ad) 1 c,.int .i64 0]] w fun e w'=>∃ b,e=.returned (pt b)∧w.heap.size≤b∧IntAt w' b 9007199254740993∧Below w.heap.size w w'):=Lib.hid (fun w h=>by
    have:=dwhole_c false (some ad) c [9007199254740993] 0 (Kd.C_below hC h) (fun p hp=>by rw [List.mem_singleton.1 hp];decide) (by decide)
    exact this)
  have TC:Hid (∀ w,Below W.heap.size W w→Calls Tryd.prog 50 #[.agg #[.bool false,.slice (some ad) 1 c,.int .i64 0]] w fun e w'=>e=.returned (.int .i64 54)∧Below w.heap.size w w'):=Lib.hid (fun w h=>dtop_one false ad c 9007199254740993 0 54 (kb_cX h hc) (by decide) (by decide) (by decide) (by decide) hL)
  have FC:Hid (∀ w,Below W.heap.size W w→Calls Tryd.prog 57 #[.bool false,.int .u64 4503599627370497,.int .i64 1,.int .i8 2] w fun e w'=>e=.returned (.float .f64 4845873199050653697)∧Below w.heap.size w w'):=Lib.hid (fun w h=>dfloat_odd false 4503599627370497 4845873199050653697 1 53 2 (by decide) (by decide) (by decide) (by decide) (by decide) (fun w' h'=>hT w' (bl_then h h')) hL2 hJ)
  have AC:Hid (∀ w,Calls Tryd.prog 56 #[.int .i8 2,.bool false,.int .i64 0,.bool false] w fun e w'=>e=.returned (.bool true)∧Below w.heap.size w w'):=Lib.hid (fun w=>(dyad_away.calls 2 false 0 false true w (by decide +kernel)).mono fun e w' ⟨h1,h2⟩=>⟨h1,by first|exact h2.below|exact h2⟩)
  have B0:=Lib.hid (bl_alloc (Below.refl W.heap.size W) (.cells #[.bool false,.slice (some ad) 1 c,.int .i64 0] 44))
  have K0:=Lib.hid (kb_new (w:=W) (o:=.cells #[.bool false,.slice (some ad) 1 c,.int .i64 0] 44) (Below.refl _ _))
  have d0:=kb_cell K0.out (i:=0) rfl
  have d1:=kb_cell K0.out (i:=1) rfl
  have d2:=kb_cell K0.out (i:=2) rfl
  clear hC hc hT hL hL2 hJ h1c
  go_enter Tryd.func31,Tryd.ntmps31
  go_upto_region 6 with (first
    | (go_at_call 48;(with_reducible refine (RC.out _ B0.out).mono ?_);rintro e w1 ⟨rfl,hb⟩;have B0:=Lib.hid (bl_then B0.out hb);have K0:=Lib.hid (kb_keep hb K0.out);clear d0 d1 d2;have d0:=kb_cell K0.out (i:=0) rfl;have d1:=kb_cell K0.out (i:=1) rfl;have d2:=kb_cell K0.out (i:=2) rfl;clear hb)
    | (go_at_call 43;(with_reducible refine (WC.out _ B0.out).mono ?_);rintro e w2 ⟨b,rfl,hbs,hI,hb⟩;have I2:=Lib.hid hI;have NB:=Lib.hid (Nat.lt_of_lt_of_le (kb_lt K0.out) hbs);have B2:=Lib.hid (bl_then B0.out hb);have K2:=Lib.hid (kb_keep hb K0.out);clear hb hI hbs))
  have sV:Sm ((9007199254740993:Int).natAbs:Int):=sm_pw (x:=9007199254740993) (k:=1) (by decide) (by decide)
  have sQ:Sm ((4503599627370496:Int).natAbs:Int):=sm_pw (x:=4503599627370496) (k:=1) (by decide) (by decide)
  have sL:Sm ((9007199254740992:Int).natAbs:Int):=sm_pw (x:=9007199254740992) (k:=1) (by decide) (by decide)
  have s1:Sm ((1:Int).natAbs:Int):=sm_pw (x:=1) (k:=1) (by decide) (by decide)
  have cA:Hid (∀ w,IntAt w b 9007199254740993→Calls Tryd.prog 49 #[pt b,pt b] w (GPost b 9007199254740993 w)):=Lib.hid (fun w h=>iabs_c h h sV)
  have cR:Hid (∀ w z u,IntAt w z u→IntAt w b 9007199254740993→Calls Tryd.prog 52 #[pt z,pt b,.int .u64 1] w (GPost z 4503599627370496 w)):=Lib.hid (fun w z u h1 h2=>rsh_c h1 h2 sV (by decide) 1 (by decide))
  have cU:Hid (∀ w z,IntAt w z 4503599627370496→Calls Tryd.prog 51 #[pt z] w fun e w'=>e=.returned (.int .u64 4503599627370496)∧w=w'):=Lib.hid (fun w z h=>u64_c h)
  have cL:Hid (∀ w z,IntAt w z 4503599627370496→Calls Tryd.prog 47 #[pt z,pt z,.int .u64 1] w (GPost z 9007199254740992 w)):=Lib.hid (fun w z h=>lsh_c h h 1 (by decide) sQ)
  have cS:Hid (∀ w y,IntAt w b 9007199254740993→IntAt w y 9007199254740992→Calls Tryd.prog 53 #[pt b,pt b,pt y] w (GPost b 1 w)):=Lib.hid (fun w y h1 h2=>sub_c h1 h1 h2 sV sL)
  have cN:Hid (∀ w,Calls Tryd.prog 55 #[.int .i64 1] w (NPost 1 w)):=Lib.hid (fun w=>newInt_c 1 (by decide) (by decide) w)
  have cM:Hid (∀ w z u y,IntAt w z u→IntAt w y 1→Calls Tryd.prog 47 #[pt z,pt y,.int .u64 0] w (GPost z 1 w)):=Lib.hid (fun w z u y h1 h2=>lsh_c h1 h2 0 (by decide) s1)
  have cC:Hid (∀ w y,IntAt w b 1→IntAt w y 1→Calls Tryd.prog 54 #[pt b,pt y] w fun e w'=>e=.returned (.int .i64 0)∧Below w.heap.size w w'):=Lib.hid (fun w y h1 h2=>icmp_c h1 h2 s1)
  have cG:Hid (∀ w,IntAt w b 1→Calls Tryd.prog 44 #[pt b] w fun e w'=>e=.returned (.int .i64 1)∧w=w'):=Lib.hid (fun w h=>isign_c h)
  clear sV sQ sL s1
  go_upto_region 12 with (first
    | (go_at_call 49;(with_reducible refine (cA.out _ I2.out).mono ?_);rintro e w3 ⟨rfl,hI,hz⟩;have I3:=Lib.hid hI;have B3:=Lib.hid (Bz.below B2.out hz B2.out.size (Nat.le_of_lt NB.out));have K3:=Lib.hid ((hz.block W.heap.size (kb_lt K2.out) (Nat.ne_of_lt NB.out)).trans K2.out);have d0:=kb_cell K3.out (i:=0) rfl;have d1:=kb_cell K3.out (i:=1) rfl;have d2:=kb_cell K3.out (i:=2) rfl;clear hI hz)
    | (go_at_call 50;(with_reducible refine (TC.out _ B3.out).mono ?_);rintro e w4 ⟨rfl,hb⟩;have I4:=Lib.hid (I3.out.below hb);have B4:=Lib.hid (bl_then B3.out hb);have K4:=Lib.hid (kb_keep hb K3.out);have d0:=kb_cell K4.out (i:=0) rfl;have d1:=kb_cell K4.out (i:=1) rfl;have d2:=kb_cell K4.out (i:=2) rfl;clear hb))
  simp only [show max (1:Int) (-1074)=1 from rfl]
  go_upto_region 13 with (first
    | (go_at_call 52;(with_reducible refine (cR.out _ _ _ (IntAt.zero w4) (I4.out.alloc _)).mono ?_);rintro e w5 ⟨rfl,hI,hz⟩;have Q5:=Lib.hid hI;have I5:=Lib.hid ((I4.out.alloc _).keep (IntAt.zero w4) (Nat.ne_of_lt I4.out.lt) hz);have NQ:=Lib.hid I4.out.lt;have NW:=Lib.hid (kb_lt K4.out);have B5:=Lib.hid (Bz.below (bl_alloc B4.out _) hz (Nat.le_trans B4.out.size (by simp)) B4.out.size);have K5:=Lib.hid ((hz.block W.heap.size (kb_lt (kb_alloc (o':=nilI) K4.out)) (Nat.ne_of_lt (kb_lt K4.out))).trans (kb_alloc (o':=nilI) K4.out));clear hI hz))
  obtain ⟨q,hq⟩:∃ q,w4.heap.size=q:=⟨_,rfl⟩
  rw [hq] at Q5 NQ NW
  simp only [hq]
  clear hq
  go_upto_region 15 with (first
    | (go_at_call 51;(with_reducible refine (cU.out _ _ Q5.out).mono ?_);rintro e w6 ⟨rfl,rfl⟩)
    | (go_at_call 47;(with_reducible refine (cL.out _ _ Q5.out).mono ?_);rintro e w6 ⟨rfl,hI,hz⟩;have Q6:=Lib.hid hI;have I6:=Lib.hid (I5.out.keep Q5.out (Nat.ne_of_lt NQ.out) hz);have B6:=Lib.hid (Bz.below B5.out hz B5.out.size (Nat.le_of_lt NW.out));have K6:=Lib.hid ((hz.block W.heap.size (kb_lt K5.out) (Nat.ne_of_lt NW.out)).trans K5.out);clear hI hz)
    | (go_at_call 53;(with_reducible refine (cS.out _ _ I6.out Q6.out).mono ?_);rintro e w7 ⟨rfl,hI,hz⟩;have I7:=Lib.hid hI;have B7:=Lib.hid (Bz.below B6.out hz B6.out.size (Nat.le_of_lt NB.out));have K7:=Lib.hid ((hz.block W.heap.size (kb_lt K6.out) (Nat.ne_of_lt NB.out)).trans K6.out);clear hI hz))
  have R7:=Lib.hid (IntAt.zero w7)
  have NR:=Lib.hid I7.out.lt
  have NZ:=Lib.hid (kb_lt K7.out)
  have I7:=Lib.hid (I7.out.alloc nilI)
  have B7:=Lib.hid (bl_alloc B7.out nilI)
  have K7:=Lib.hid (kb_alloc (o':=nilI) K7.out)
  go_upto_region 16 with (first
    | (go_at_call 55;(with_reducible refine (cN.out _).mono ?_);rintro e w8 ⟨b1,rfl,hbs,hI,hb⟩;have O8:=Lib.hid hI;have I8:=Lib.hid (I7.out.below hb);have R8:=Lib.hid (R7.out.below hb);have B8:=Lib.hid (bl_then B7.out hb);have K8:=Lib.hid (kb_keep hb K7.out);have NS:=Lib.hid (Nat.lt_of_lt_of_le R7.out.lt hbs);clear hI hb hbs)
    | (go_at_call 47;(with_reducible refine (cM.out _ _ _ _ R8.out O8.out).mono ?_);rintro e w9 ⟨rfl,hI,hz⟩;have O9:=Lib.hid hI;have I9:=Lib.hid (I8.out.keep R8.out (Nat.ne_of_lt NR.out) hz);have B9:=Lib.hid (Bz.below B8.out hz B8.out.size (Nat.le_of_lt NZ.out));have K9:=Lib.hid ((hz.block W.heap.size (kb_lt K8.out) (Nat.ne_of_lt NZ.out)).trans K8.out);clear hI hz)
    | (go_at_call 54;(with_reducible refine (cC.out _ _ I9.out O9.out).mono ?_);rintro e wA ⟨rfl,hb⟩;have IA:=Lib.hid (I9.out.below hb);have BA:=Lib.hid (bl_then B9.out hb);have KA:=Lib.hid (kb_keep hb K9.out);have d0:=kb_cell KA.out (i:=0) rfl;have d1:=kb_cell KA.out (i:=1) rfl;have d2:=kb_cell KA.out (i:=2) rfl;clear hb))
  go_wp2_with (first
    | (go_at_call 44;(with_reducible refine (cG.out _ IA.out).mono ?_);rintro e wB ⟨rfl,rfl⟩)
    | (go_at_call 56;rw [show (Go.bits BinOp.and IntKind.u64 4503599627370496 1 == 1)=false from by decide +kernel];(with_reducible refine (AC.out _).mono ?_);rintro e wC ⟨rfl,hb⟩;have BC:=Lib.hid (bl_then BA.out hb);have KC:=Lib.hid (kb_keep hb KA.out);have d0:=kb_cell KC.out (i:=0) rfl;have d1:=kb_cell KC.out (i:=1) rfl;have d2:=kb_cell KC.out (i:=2) rfl;clear hb)
    | (go_at_call 57;(with_reducible refine (FC.out _ BC.out).mono ?_);rintro e wD ⟨rfl,hb⟩;have BD:=Lib.hid (bl_then BC.out hb);clear hb))
  go_ret2
  exact ⟨rfl,BD.out⟩
end Go.Proofs.YtalhpbilkhdfhaaDoor
namespace Go.Proofs.YtalhpbilkhdfhaaDoor
open Go Go.RowKit GFl
set_option maxRecDepth 100000
attribute [local go_sem] run_f64frombits run_neg_f64
def fin (x:Nat):Bool:=decide (rg x < 9218868437227405312)
theorem fin_t {x:Nat} (h:rg x < 9218868437227405312):fin x=true:=by unfold fin;simp [h]
theorem fin_f {x:Nat} (h:9218868437227405312≤rg x):fin x=false:=by unfold fin;simp;omega
theorem fin_isn {x:Nat} (h:fin x=true):isn x=false:=by unfold fin at h;rw [isn_eq];simp at h ⊢;omega
def sgI (x:Nat):Int:=if isn x then 0 else if 0 < plc x then 1 else if plc x < 0 then -1 else 0
theorem gt0 {x:Nat} (hx:W64 x):(FloatKind.f64.format.order x 0 == some .gt)=(!isn x && decide (0 < plc x)):=by
  rw [t_gt hx (w_const (by decide)),isn0,plc0];simp
theorem lt0 {x:Nat} (hx:W64 x):(FloatKind.f64.format.order x 0 == some .lt)=(!isn x && decide (plc x < 0)):=by
  rw [t_lt hx (w_const (by decide)),isn0,plc0];simp
theorem eq0 {x:Nat} (hx:W64 x):(FloatKind.f64.format.order x 0 == some .eq)=(!isn x && decide (plc x=0)):=by
  rw [t_eq hx (w_const (by decide)),isn0,plc0];simp
theorem le0 {x:Nat} (hx:W64 x):(FloatKind.f64.format.order x 0 == some .lt || FloatKind.f64.format.order x 0 == some .eq)=(!isn x && decide (plc x≤0)):=by
  rw [t_le hx (w_const (by decide)),isn0,plc0];simp
theorem sign_c (x:Nat) (hx:W64 x) (w:World):Calls Tryd.prog 23 #[.float .f64 x] w fun e w'=>e=.returned (.int .i64 (sgI x))∧w=w':=by
  have k1:=gt0 hx
  have k2:=lt0 hx
  unfold sgI
  cases hn:isn x <;> rw [hn] at k1 k2
  · rcases Int.lt_trichotomy (plc x) 0 with h|h|h
    · rw [if_neg (by simp),if_neg (by omega),if_pos h]
      rw [decide_eq_false (by omega)] at k1
      rw [decide_eq_true h] at k2
      clear h
      go_enter Tryd.func23,Tryd.ntmps23
      go_wp2
      go_ret
      exact ⟨rfl,rfl⟩
    · rw [if_neg (by simp),if_neg (by omega),if_neg (by omega)]
      rw [decide_eq_false (by omega)] at k1 k2
      clear h
      go_enter Tryd.func23,Tryd.ntmps23
      go_wp2
      go_ret
      exact ⟨rfl,rfl⟩
    · rw [if_neg (by simp),if_pos h]
      rw [decide_eq_true h] at k1
      clear h k2
      go_enter Tryd.func23,Tryd.ntmps23
      go_wp2
      go_ret
      exact ⟨rfl,rfl⟩
  · rw [if_pos rfl]
    go_enter Tryd.func23,Tryd.ntmps23
    go_wp2
    go_ret
    exact ⟨rfl,rfl⟩
def stepW (x:Nat) (up:Bool):Nat:=if rg x=0 then (if up then 1 else 9223372036854775809) else if up=!neg x then x + 1 else x - 1
theorem step_c (x:Nat) (up:Bool) (hx:W64 x) (hn:rg x≤9218868437227405312) (w:World):Calls Tryd.prog 38 #[.float .f64 x,.bool up] w fun e w'=>e=.returned (.float .f64 (stepW x up))∧w=w':=by
  have k1:=eq0 hx
  have k2:=gt0 hx
  have hl:=hx.lt
  have hr:=rg_eq x
  have hg:=neg_eq x
  have hnx:isn x=false:=by rw [isn_eq];simp;omega
  have hp:=plc_eq x
  rw [hnx] at k1 k2
  simp only [Bool.not_false,Bool.true_and] at k1 k2
  have K1:=Lib.hid k1
  have K2:=Lib.hid k2
  have HR:=Lib.hid hr
  have HG:=Lib.hid hg
  have HP:=Lib.hid hp
  have HL:=Lib.hid hl
  obtain ⟨X,hX⟩:∃ X:Int,(x:Int)=X:=⟨_,rfl⟩
  have fb:∀ w,(callFunc 32 #[.float .f64 x]).run Tryd.prog w=.ok (.value (.int .u64 X)) w:=fun w=>by rw [← hX];exact run_f64bits x w
  have HX:=Lib.hid hX
  clear k1 k2 hr hg hnx hp hl hX
  go_enter Tryd.func38,Tryd.ntmps38
  go_upto_block 0 with (fail)
  go_cut [5] (fun v5 wx=>v5=.int .u64 (stepW x up:Nat)∧w=wx)
  case first =>
    by_cases h0:rg x=0
    · have hz:plc x=0:=plc_zero.2 h0
      have k1:=K1.out
      rw [decide_eq_true hz] at k1
      have st:stepW x up=if up then 1 else 9223372036854775809:=by unfold stepW;rw [if_pos h0]
      have ST:=Lib.hid st
      clear h0 hz st
      cases up
      all_goals
        go_wp2
        go_meet
        exact ⟨by rw [ST.out];rfl,rfl⟩
    · have hz:¬ plc x=0:=fun h=>h0 (plc_zero.1 h)
      have k1:=K1.out
      rw [decide_eq_false hz] at k1
      have hr:=HR.out
      have hl:=HL.out
      have h1:1≤x:=Nat.pos_of_ne_zero (fun h=>h0 (by rw [h];decide))
      have h2:x < 18446744073709551615:=by omega
      have ws:IntKind.u64.wrap ((x:Int) - 1)=((x - 1:Nat):Int):=by rw [IntKind.wrap_u64];omega
      have wa:IntKind.u64.wrap ((x:Int) + 1)=((x + 1:Nat):Int):=by rw [IntKind.wrap_u64];omega
      rw [HX.out] at ws wa
      have h3:(decide (0 < plc x))=!neg x:=by
        rw [HP.out];have hz':=mt plc_zero.2 hz;cases neg x <;> simp <;> omega
      have k2:=K2.out
      rw [h3] at k2
      have st:stepW x up=if up=!neg x then x + 1 else x - 1:=by unfold stepW;rw [if_neg h0]
      have ST:=Lib.hid st
      clear h0 hz hr hl h1 h2 h3 st
      cases hs:neg x <;> rw [hs] at k2
      all_goals
        have K2:=Lib.hid k2
        have HS:=Lib.hid hs
        have WS:=Lib.hid ws
        have WA:=Lib.hid wa
        clear k2 hs ws wa
        cases up
        all_goals
          go_wp2
          all_goals first|exact absurd (K2.out.symm.trans (by assumption:_=false)) (by decide)|exact absurd (K2.out.symm.trans (by assumption:_=true)) (by decide)|exact absurd ((congrArg Bool.not K2.out).symm.trans (by assumption:_=false)) (by decide)|exact absurd ((congrArg Bool.not K2.out).symm.trans (by assumption:_=true)) (by decide)|(go_meet;exact ⟨by rw [ST.out,HS.out];first|(rw [WS.out,if_neg (by decide)])|(rw [WA.out,if_pos (by decide)]),rfl⟩)
  case rest =>
    obtain ⟨rfl,rfl⟩:=hcut
    go_wp2
    go_ret
    exact ⟨ret_float (Int.toNat_natCast _),rfl⟩
attribute [local go_sem] run_f64bits
def modeW (x:Nat) (m:Int):Int:=if m=3 then (if neg x then 2 else 1) else m
def settleW (x:Nat) (off m:Int):Nat :=
  if rg x=9218868437227405312 then
    if (neg x=false∧modeW x m=1) ∨ (neg x=true∧modeW x m=2) then wd (neg x) 9218868437227405311 else x
  else if (off < 0∧modeW x m=1) ∨ (0 < off∧modeW x m=2) then stepW x (decide (0 < off)) else x
theorem settle_c (x:Nat) (off m:Int) (hx:W64 x) (hn:rg x≤9218868437227405312) (w:World) :
    Calls Tryd.prog 22 #[.float .f64 x,.int .i64 off,.int .i8 m] w fun e w'=>e=.returned (.float .f64 (settleW x off m))∧w=w':=by
  have sg:∀ w,Calls Tryd.prog 19 #[.float .f64 x] w fun e w'=>e=.returned (.bool (neg x))∧w=w':=fun w=>(signbit_c x hx w).mono fun _ _ h=>⟨h.1,h.2.symm⟩
  have ii:∀ w,Calls Tryd.prog 21 #[.float .f64 x,.int .i64 0] w fun e w'=>e=.returned (.bool (infS x 0))∧w=w':=fun w=>(isInf_c x 0 hx w).mono fun _ _ h=>⟨h.1,h.2.symm⟩
  have st:∀ up w,Calls Tryd.prog 38 #[.float .f64 x,.bool up] w fun e w'=>e=.returned (.float .f64 (stepW x up))∧w=w':=fun up w=>step_c x up hx hn w
  have cs:∀ w,Calls Tryd.prog 37 #[.float .f64 9218868437227405311,.float .f64 x] w fun e w'=>e=.returned (.float .f64 (csgn 9218868437227405311 x))∧w=w':=fun w=>(copysign_c _ x (w_const (by decide)) hx w).mono fun _ _ h=>⟨h.1,h.2.symm⟩
  have hI:(infS x 0=true) ↔ rg x=9218868437227405312:=by unfold infS;simp
  have hG:rg x=9218868437227405312→((FloatKind.f64.format.order x 0=some .gt) ↔ neg x=false):=by
    intro h
    have h1:=gt0 hx
    have h2:isn x=false:=by rw [isn_eq];simp;omega
    rw [h2,plc_eq,h] at h1
    rw [← beq_iff_eq,h1]
    cases neg x <;> simp
  have hL:rg x=9218868437227405312→((FloatKind.f64.format.order x 0=some .lt) ↔ neg x=true):=by
    intro h
    have h1:=lt0 hx
    have h2:isn x=false:=by rw [isn_eq];simp;omega
    rw [h2,plc_eq,h] at h1
    rw [← beq_iff_eq,h1]
    cases neg x <;> simp
  have hC:csgn 9218868437227405311 x=wd (neg x) 9218868437227405311:=by unfold csgn;rw [show rg 9218868437227405311=9218868437227405311 by decide]
  have HI:=Lib.hid hI
  have HG:=Lib.hid hG
  have HL:=Lib.hid hL
  have HC:=Lib.hid hC
  clear hI hG hL hC
  go_enter Tryd.func22,Tryd.ntmps22
  go_wp2_with (first|(go_at_call 19;refine (sg _).mono ?_;rintro e w' ⟨rfl,rfl⟩)|(go_at_call 21;refine (ii _).mono ?_;rintro e w' ⟨rfl,rfl⟩)|(go_at_call 38;refine (st _ _).mono ?_;rintro e w' ⟨rfl,rfl⟩)|(go_at_call 37;refine (cs _).mono ?_;rintro e w' ⟨rfl,rfl⟩))
  all_goals go_ret
  all_goals refine ⟨ret_float ?_,rfl⟩
  all_goals
    have hI:=HI.out
    have hG:=HG.out
    have hL:=HL.out
    have hC:=HC.out
    clear HI HG HL HC sg ii st cs
    (try simp only [beq_iff_eq,beq_eq_false_iff_ne] at *)
    unfold settleW modeW
    grind
end Go.Proofs.YtalhpbilkhdfhaaDoor
namespace Go.Proofs.YtalhpbilkhdfhaaDoor
open Go Go.RowKit GFl Ieee
set_option maxRecDepth 100000
attribute [local go_sem] run_f64bits run_f64frombits run_neg_f64
theorem run_sqrt64 {x r:Nat} (h:double.sqrt x=some r) (w:World):(callFunc 59 #[.float .f64 x]).run Tryd.prog w=.ok (.value (.float .f64 r)) w:=by
  rw [run_callFunc_extern (P:=Tryd.prog) (f:=59) (fn:=Tryd.f59) (e:=Extern.MathSqrt.sqrt) (by kernel_rfl) (by kernel_rfl) (by kernel_rfl) (by kernel_rfl) (by kernel_rfl)]
  have h':FloatKind.f64.format.sqrt x=some r:=h
  have e:Extern.MathSqrt.sqrt #[.float .f64 x]=(match FloatKind.f64.format.sqrt x with|some r=>pure (.float .f64 r)|none=>do pure (.float .f64 (← choose (.nanBits .f64 x x)))):=rfl
  rw [e,h']
  rfl
theorem sqrt_c {x r:Nat} (h:double.sqrt x=some r) (w:World):Calls Tryd.prog 35 #[.float .f64 x] w fun e w'=>e=.returned (.float .f64 r)∧w=w':=by
  have D:=run_sqrt64 h
  clear h
  go_enter Tryd.func35,Tryd.ntmps35
  go_wp2
  go_ret
  exact ⟨rfl,rfl⟩
theorem run_fma64 {x y z r:Nat} (h:double.fma x y z=some r) (w:World):(callFunc 25 #[.float .f64 x,.float .f64 y,.float .f64 z]).run Tryd.prog w=.ok (.value (.float .f64 r)) w:=by
  rw [run_callFunc_extern (P:=Tryd.prog) (f:=25) (fn:=Tryd.f25) (e:=Extern.MathFMA.fma) (by kernel_rfl) (by kernel_rfl) (by kernel_rfl) (by kernel_rfl) (by kernel_rfl)]
  have h':FloatKind.f64.format.fma x y z=some r:=h
  have e:Extern.MathFMA.fma #[.float .f64 x,.float .f64 y,.float .f64 z]=(match FloatKind.f64.format.fma x y z with
    | some r=>pure (.float .f64 r)
    | none=>do
      let (a,b):=if Extern.MathFMA.isNaN x then (x,y) else if Extern.MathFMA.isNaN y then (y,z) else (z,z)
      pure (.float .f64 (← choose (.nanBits .f64 a b)))):=rfl
  rw [e,h']
  rfl
def wayI (m:Int):Int:=if m < 0 ∨ 3 < m then 0 else m
theorem way_c (m:Int) (w:World):Calls Tryd.prog 17 #[.int .i8 m] w fun e w'=>e=.returned (.int .i8 (wayI m))∧w=w':=by
  go_enter Tryd.func17,Tryd.ntmps17
  go_wp2
  all_goals go_ret
  all_goals exact ⟨ret_int (by unfold wayI;grind),rfl⟩
def FRow (w:World) (b:Nat) (l:List Nat):Prop:=∀ k,k < l.length→w.cell? ⟨b,k,none⟩=some (.float .f64 (l.getD k 0))
theorem all_take {p:Nat→Bool} {l:List Nat} {k:Nat} (hk:k < l.length) (h:(l.take k).all p=true) (h1:p (l.getD k 0)=true):(l.take (k + 1)).all p=true:=by
  rw [List.take_succ_eq_append_getElem hk,List.all_append,h]
  rw [List.getD_eq_getElem?_getD,List.getElem?_eq_getElem hk] at h1
  simpa using h1
theorem all_no {p:Nat→Bool} {l:List Nat} {k:Nat} (hk:k < l.length) (h1:p (l.getD k 0)=false):l.all p=false:=by
  rw [List.getD_eq_getElem?_getD,List.getElem?_eq_getElem hk] at h1
  rw [List.all_eq_false]
  exact ⟨l[k],List.getElem_mem hk,by simpa using h1⟩
theorem getD_mem {l:List Nat} {k:Nat} (hk:k < l.length):l.getD k 0 ∈ l:=by
  rw [List.getD_eq_getElem?_getD,List.getElem?_eq_getElem hk];exact List.getElem_mem hk
theorem finite_c (b:Nat) (l:List Nat) (hl:l.length≤1000) (hw:∀ x ∈ l,W64 x) (w:World) (hc:FRow w b l) :
    Calls Tryd.prog 18 #[.slice (some ⟨b,0,none⟩) l.length l.length] w fun e w'=>e=.returned (.bool (l.all fin))∧w=w':=by
  have HC:=Lib.hid hc
  have HW:=Lib.hid hw
  clear hc hw
  go_enter Tryd.func18,Tryd.ntmps18
  go_wp2
  go_loop [7] (fun i=>∃ k:Nat,k≤l.length∧i=.int .i64 k∧Hid ((l.take k).all fin=true)) (fun i=>l.length - (intOf i).toNat)
  case atStart=>exact ⟨0,Nat.zero_le _,rfl,rfl⟩
  case round =>
    obtain ⟨k,hk,rfl,ha⟩:=hrel
    by_cases hlt:k < l.length
    · have hcell:w.cell? ⟨b,k,none⟩=some (.float .f64 (l.getD k 0)):=HC.out k hlt
      have hx:=HW.out _ (getD_mem hlt)
      have AL:=Lib.hid (all_take (p:=fin) hlt ha.out)
      have AN:=Lib.hid (all_no (p:=fin) hlt)
      generalize l.getD k 0=x at *
      have e1:fin x=(!isn x && !infS x 0):=by
        unfold fin infS
        rw [isn_eq,Bool.eq_iff_iff];simp;omega
      have E1:=Lib.hid e1
      clear e1
      go_wp2_with (first|(go_at_call 36;refine (isNaN_c _ hx _).mono ?_;rintro e w' ⟨rfl,hw⟩;obtain rfl:=hw.symm)|(go_at_call 21;refine (isInf_c _ _ hx _).mono ?_;rintro e w' ⟨rfl,hw⟩;obtain rfl:=hw.symm))
      all_goals first
        | (go_ret;exact ⟨ret_bool (AN.out (by rw [E1.out];simp [*])).symm,rfl⟩)
        | (go_round
           case rel=>exact ⟨k + 1,by omega,by go_num,AL.out (by rw [E1.out];simp [*])⟩
           case measure=>simp [intOf];omega)
    · have:k=l.length:=by omega
      subst this
      go_wp2
      go_ret
      exact ⟨ret_bool (by have:=ha.out;rw [List.take_length] at this;exact this.symm),rfl⟩
def plainF (x:Nat):Bool:=decide (200≤rg x / 4503599627370496∧rg x / 4503599627370496≤1900)
theorem u64_low11 (y:Nat) (h:y < 18446744073709551616):bits BinOp.and IntKind.u64 (y:Int) 2047=((y % 2048:Nat):Int):=by
  have:=u64_and_nat y 2047 h (by decide)
  rw [show ((2047:Nat):Int)=2047 from rfl] at this
  rw [this]
  congr 1
  exact Nat.and_two_pow_sub_one_eq_mod y 11
theorem plain_c (b:Nat) (l:List Nat) (hl:l.length≤1000) (hw:∀ x ∈ l,W64 x) (w:World) (hc:FRow w b l) :
    Calls Tryd.prog 24 #[.slice (some ⟨b,0,none⟩) l.length l.length] w fun e w'=>e=.returned (.bool (l.all plainF))∧w=w':=by
  have HC:=Lib.hid hc
  have HW:=Lib.hid hw
  clear hc hw
  go_enter Tryd.func24,Tryd.ntmps24
  go_wp2
  go_loop [8] (fun i=>∃ k:Nat,k≤l.length∧i=.int .i64 k∧Hid ((l.take k).all plainF=true)) (fun i=>l.length - (intOf i).toNat)
  case atStart=>exact ⟨0,Nat.zero_le _,rfl,rfl⟩
  case round =>
    obtain ⟨k,hk,rfl,ha⟩:=hrel
    by_cases hlt:k < l.length
    · have hcell:w.cell? ⟨b,k,none⟩=some (.float .f64 (l.getD k 0)):=HC.out k hlt
      have hx:=HW.out _ (getD_mem hlt)
      have AL:=Lib.hid (all_take (p:=plainF) hlt ha.out)
      have AN:=Lib.hid (all_no (p:=plainF) hlt)
      generalize l.getD k 0=x at *
      have eb:bits BinOp.and IntKind.u64 ((x:Int) / 4503599627370496) 2047=((rg x / 4503599627370496:Nat):Int):=by
        have h:=hx.lt
        have:=u64_low11 (x / 4503599627370496) (by omega)
        rw [show ((x / 4503599627370496:Nat):Int)=(x:Int) / 4503599627370496 by omega] at this
        rw [this,rg_eq]
        congr 1
        omega
      have EB:=Lib.hid eb
      clear eb
      go_wp2
      all_goals simp only [EB.out] at *
      all_goals first
        | (go_ret;exact ⟨ret_bool (AN.out (by unfold plainF;simp;omega)).symm,rfl⟩)
        | (go_round
           case rel=>exact ⟨k + 1,by omega,by go_num,AL.out (by unfold plainF;simp;omega)⟩
           case measure=>simp [intOf];omega)
    · have:k=l.length:=by omega
      subst this
      go_wp2
      go_ret
      exact ⟨ret_bool (by have:=ha.out;rw [List.take_length] at this;exact this.symm),rfl⟩
end Go.Proofs.YtalhpbilkhdfhaaDoor
namespace Go.Proofs.YtalhpbilkhdfhaaDoor
open Go Go.RowKit Nv
open Go.Proofs.YtalhpbilkhdfhaaDoorW.PrintWords (Kd Drawn0 OwnRow Reps)
open XBn
set_option maxRecDepth 100000
set_option linter.unusedSimpArgs false
theorem map_reps6 (l:List Int):Reps (fun x cs=>cs=[Value.int .u64 x]) 1 l (l.map (Value.int .u64)):=by
  refine ⟨by simp,fun j p hp=>?_⟩
  have hj:=(List.getElem?_eq_some_iff.1 hp).1
  have hv:=(List.getElem?_eq_some_iff.1 hp).2
  rw [Nat.mul_one,← List.map_drop,← List.map_take,List.drop_eq_getElem_cons hj,hv];rfl
theorem own_int6 {w:World} {B:Nat} {v:Value} {l:List Int} (h:w.ownsRow B 54 1 v l.length (l.map (Value.int .u64))):∃ A c,v=.slice A l.length c∧l.length≤c∧Kd.C (Kd.int .u64) w A l.length l :=
  OwnRow.reads ⟨_,h,map_reps6 l⟩
theorem own_one6 {w:World} {B:Nat} {A:Option Addr} {c:Nat} {v:Int} (h:w.ownsRow B 54 1 (.slice A 1 c) 1 [.int .u64 v]):∃ ad,A=some ad∧1≤c∧Kd.C (Kd.int .u64) w (some ad) 1 [v]∧w.cell? ad=some (.int .u64 v):=by
  obtain ⟨A',c',e,hc,hC⟩:=own_int6 (l:=[v]) h
  injection e with e1 e2 e3
  subst e1 e3
  obtain ⟨ad,e,hh⟩:=hC.2.2 (by simp)
  subst e
  refine ⟨ad,rfl,hc,hC,?_⟩
  obtain ⟨cs,_,hk,hx⟩:=hh 0 v rfl
  have hk':cs=[Value.int .u64 v]:=hk
  subst hk'
  have:=hx 0 _ rfl
  cases ad
  simpa [Addr.add] using this
set_option maxHeartbeats 1000000 in
theorem rint_t {W:World} (hT:Tab W)
    (hJ:∀ w,Calls Tryd.prog 79 #[.agg #[.bool false,.int .u64 4503599627370497,.int .i64 1]] w fun e w'=>e=.returned (.tuple #[.float .f64 4845873199050653697,.bool true])∧Below w.heap.size w w') :
    Calls Tryd.prog 33 #[.int .i64 9007199254740993,.int .i8 2] W fun e w'=>e=.returned (.float .f64 4845873199050653697)∧Below W.heap.size W w':=by
  have IC:Hid (∀ w,Calls Tryd.prog 58 #[.int .i64 9007199254740993] w fun e w'=>∃ ad c,e=.returned (.agg #[.bool false,.slice (some ad) 1 c,.int .i64 0])∧1≤c∧Kd.C (Kd.int .u64) w' (some ad) 1 [9007199254740993]∧w'.cell? ad=some (.int .u64 9007199254740993)∧Below w.heap.size w w'):=Lib.hid (fun w=>by
    refine (dint_odd (W:=w) 9007199254740993 (by decide) (by decide) (by decide)).mono ?_
    rintro e w' ⟨A,c,rfl,ho,hb⟩
    obtain ⟨ad,rfl,h1,h2,h3⟩:=own_one6 ho
    exact ⟨ad,c,rfl,h1,h2,h3,hb⟩)
  have RC:Hid (∀ w ad c,Below W.heap.size W w→1≤c→Kd.C (Kd.int .u64) w (some ad) 1 [9007199254740993]→w.cell? ad=some (.int .u64 9007199254740993)→Calls Tryd.prog 31 #[.agg #[.bool false,.slice (some ad) 1 c,.int .i64 0],.int .i8 2] w fun e w'=>e=.returned (.tuple #[.float .f64 4845873199050653697,.int .i64 0])∧Below w.heap.size w w'):=Lib.hid (fun w ad c hb h1 h2 h3=>by
    refine dround_t ad c h1 h2 h3 (fun w1 h=>?_) (fun w1=>?_) (fun w1=>?_) hJ
    · have:=tz64_c 4503599627370497 (by decide) w1 ((hT.below hb).below h)
      rwa [show ((Lib.ctz 64 4503599627370497:Nat):Int)=0 from by decide +kernel] at this
    · have:=len64_c 9007199254740993 (by decide) w1
      rwa [show ((Lib.bitLen 9007199254740993:Nat):Int)=54 from by decide +kernel] at this
    · have:=len64_c 4503599627370497 (by decide) w1
      rwa [show ((Lib.bitLen 4503599627370497:Nat):Int)=53 from by decide +kernel] at this)
  have WC:Hid (∀ w,Calls Tryd.prog 17 #[.int .i8 2] w fun e w'=>e=.returned (.int .i8 2)∧w=w'):=Lib.hid (fun w=>way_c 2 w)
  have B0:=Lib.hid (Below.refl W.heap.size W)
  clear hT hJ
  go_enter Tryd.func33,Tryd.ntmps33
  go_wp2_with (first
    | (go_at_call 58;(with_reducible refine (IC.out _).mono ?_);rintro e w1 ⟨ad,c,rfl,h1,h2,h3,hb⟩;have B1:=Lib.hid (bl_then B0.out hb);have H1:=Lib.hid h1;have H2:=Lib.hid h2;have H3:=Lib.hid h3;clear hb h1 h2 h3)
    | (go_at_call 17;(with_reducible refine (WC.out _).mono ?_);rintro e w2 ⟨rfl,rfl⟩)
    | (go_at_call 31;(with_reducible refine (RC.out _ _ _ B1.out H1.out H2.out H3.out).mono ?_);rintro e w3 ⟨rfl,hb⟩;have B3:=Lib.hid (bl_then B1.out hb);clear hb))
  go_ret
  exact ⟨rfl,B3.out⟩
end Go.Proofs.YtalhpbilkhdfhaaDoor
namespace Go.Proofs.YtalhpbilkhdfhaaDoor
open Go Go.RowKit Nv
open Go.Proofs.YtalhpbilkhdfhaaDoorW.PrintWords (Kd own_move own_ne own_lt own_base own_typed)
open XBn
set_option maxRecDepth 100000
set_option linter.unusedSimpArgs false
theorem lbs_ind (P:Nat→Prop) (h0:P 0) (h1:∀ m,m ≠ 0→P (m / 18446744073709551616)→P m) (m:Nat):P m:=by
  induction m using Nat.strongRecOn with
  | ind m ih =>
    by_cases h:m=0
    · rw [h];exact h0
    · exact h1 m h (ih _ (Nat.div_lt_self (by omega) (by decide)))
theorem lbs_lw (m:Nat):Lw (lbs m):=by
  refine lbs_ind (fun m=>Lw (lbs m)) ?_ ?_ m
  · intro p hp;rw [lbs_zero] at hp;cases hp
  · intro m h ih p hp
    rw [lbs_pos h] at hp
    rcases List.mem_cons.1 hp with rfl|hp
    · constructor <;> omega
    · exact ih p hp
theorem lvN_lbs (m:Nat):lvN (lbs m)=m:=by
  refine lbs_ind (fun m=>lvN (lbs m)=m) ?_ ?_ m
  · rw [lbs_zero];rfl
  · intro m h ih
    rw [lbs_pos h]
    show ((m % 18446744073709551616:Nat):Int).toNat + 18446744073709551616 * lvN (lbs (m / 18446744073709551616))=m
    rw [ih,Int.toNat_natCast]
    exact Nat.mod_add_div m _
theorem lbs_nil {m:Nat}:(lbs m).length=0 ↔ m=0:=by
  constructor
  · intro h
    by_cases h0:m=0
    · exact h0
    · rw [lbs_pos h0] at h;simp at h
  · rintro rfl;rw [lbs_zero];rfl
theorem bl_shift {m:Nat} (h:m / 18446744073709551616 ≠ 0):bl m=64 + bl (m / 18446744073709551616):=bl_top (i:=2) h rfl
theorem lbs_top (m:Nat):m ≠ 0→∃ p:Nat,(lbs m)[(lbs m).length - 1]?=some (p:Int)∧p ≠ 0∧p < 18446744073709551616∧bl m=64 * ((lbs m).length - 1) + bl p:=by
  refine lbs_ind (fun m=>m ≠ 0→∃ p:Nat,(lbs m)[(lbs m).length - 1]?=some (p:Int)∧p ≠ 0∧p < 18446744073709551616∧bl m=64 * ((lbs m).length - 1) + bl p) ?_ ?_ m
  · intro h;exact absurd rfl h
  · intro m h ih _
    rw [lbs_pos h]
    by_cases hd:m / 18446744073709551616=0
    · have hlt:m < 18446744073709551616:=by omega
      rw [hd,lbs_zero,Nat.mod_eq_of_lt hlt]
      exact ⟨m,by simp,h,hlt,by simp⟩
    · obtain ⟨p,h1,h2,h3,h4⟩:=ih hd
      have hl:(lbs (m / 18446744073709551616)).length ≠ 0:=fun e=>hd (lbs_nil.1 e)
      refine ⟨p,?_,h2,h3,?_⟩
      · rw [List.length_cons,Nat.add_sub_cancel,List.getElem?_cons,if_neg hl];exact h1
      · rw [bl_shift hd,h4,List.length_cons];omega
theorem u64_low1 (y:Nat) (h:y < 18446744073709551616):bits BinOp.and IntKind.u64 (y:Int) 1=((y % 2:Nat):Int):=by
  have:=u64_and_nat y 1 h (by decide)
  rw [show ((1:Nat):Int)=1 from rfl] at this
  rw [this]
  congr 1
  exact Nat.and_two_pow_sub_one_eq_mod y 1
theorem two_y (w:World) (o o':Obj):((w.alloc o).alloc o').heap[w.heap.size + 1]?=some o':=by
  have:=kb_new (w:=w.alloc o) (o:=o') (Below.refl _ _)
  simpa using this
structure DR (k:Nat) (g:Bool) (m:Nat) (x:Int):Prop where
  z:m=0→g=false∧x=0
  o:m ≠ 0→m % 2=1
  l:m < 2 ^ (64 * k)
  k:k≤256
  lo:-30000≤x
  hi:x≤30000
theorem DR.len {k:Nat} {g:Bool} {m:Nat} {x:Int} (h:DR k g m x):(lbs m).length≤256:=Nat.le_trans (lbs_len h.l) h.k
theorem DR.sm {k:Nat} {g:Bool} {m:Nat} {x:Int} (h:DR k g m x):Sm (m:Int):=sm_pw h.l (by have:=h.k;omega)
theorem right_f1 {k:Nat} {g:Bool} {m:Nat} {x:Int} (h:DR k g m x):dyad_Right.f g (lbs m) x=some true:=by
  unfold dyad_Right.f
  by_cases h0:m=0
  · obtain ⟨rfl,rfl⟩:=h.z h0
    rw [if_pos (by have:=lbs_nil.2 h0;omega),if_neg (by decide)]
    rfl
  · have hl:=h.len
    have hp:(lbs m).length ≠ 0:=fun e=>h0 (lbs_nil.1 e)
    have hw:wrap64 (((lbs m).length:Int) - 1)=(((lbs m).length - 1:Nat):Int):=by unfold wrap64;omega
    obtain ⟨p,h1,h2,h3,_⟩:=lbs_top m h0
    obtain ⟨hlt,hv⟩:=List.getElem?_eq_some_iff.1 h1
    have hlt0:0 < (lbs m).length:=by omega
    have f0:(lbs m)[0]=((m % 18446744073709551616:Nat):Int):=by simp only [lbs_pos h0,List.getElem_cons_zero]
    have ho:=h.o h0
    have e0:=u64_low1 (m % 18446744073709551616) (Nat.mod_lt _ (by decide))
    have e1:m % 18446744073709551616 % 2=1:=by omega
    rw [e1] at e0
    have r0:Go.Proofs.YtalhpbilkhdfhaaDoorW.PrintWords.rd (lbs m) 0=((m % 18446744073709551616:Nat):Int):=by
      have:=rd_nat hlt0
      rw [f0] at this
      exact this
    rw [if_neg (by omega),if_pos (by omega),hw,if_pos (by omega),if_pos (by omega),rd_nat hlt,hv,if_neg (by omega),if_pos (by omega),r0,e0,if_pos (by rfl),if_pos (by have:=h.lo;omega),decide_eq_true (by have:=h.hi;omega)]
def Dy (w:World) (d:Value) (g:Bool) (m:Nat) (x:Int):Prop:=∃ A c,d=.agg #[.bool g,.slice A (lbs m).length c,.int .i64 x]∧(lbs m).length≤c∧Kd.C (Kd.int .u64) w A (lbs m).length (lbs m)
theorem Dy.below {w w1:World} {d:Value} {g:Bool} {m:Nat} {x:Int} (h:Dy w d g m x) (hb:Below w.heap.size w w1):Dy w1 d g m x:=by
  obtain ⟨A,c,rfl,hl,hC⟩:=h
  exact ⟨A,c,rfl,hl,Kd.C_below hC hb⟩
theorem dy_own {w:World} {B m:Nat} {g:Bool} {x:Int} {v:Value} (h:w.ownsRow B 54 1 v (lbs m).length (U6 (lbs m))):Dy w (.agg #[.bool g,v,.int .i64 x]) g m x:=by
  obtain ⟨A,c,rfl,hc,hC⟩:=own_int6 h
  exact ⟨A,c,rfl,hc,hC⟩
theorem yright_c {k:Nat} {g:Bool} {m:Nat} {x:Int} {d:Value} {w:World} (h:Dy w d g m x) (r:DR k g m x):Calls Tryd.prog 48 #[d] w fun e w'=>e=.returned (.bool true)∧Below w.heap.size w w':=by
  obtain ⟨A,c,rfl,hl,hC⟩:=h
  exact (dyad_Right.calls g A c (lbs m) x true w hC hl (right_f1 r)).mono fun e w' ⟨h1,h2⟩=>⟨h1,by first|exact h2.below|exact h2⟩
theorem ywhole_c {k:Nat} {g:Bool} {m:Nat} {x:Int} {d:Value} {w:World} (h:Dy w d g m x) (r:DR k g m x):Calls Tryd.prog 43 #[d] w fun e w'=>∃ b,e=.returned (pt b)∧w.heap.size≤b∧IntAt w' b (sg g m)∧Below w.heap.size w w':=by
  obtain ⟨A,c,rfl,hl,hC⟩:=h
  have:=dwhole_c (W:=w) g A c (lbs m) x hC (lbs_lw m) (by have:=r.len;omega)
  rw [lvN_lbs] at this
  exact this
theorem yboth_c {k l:Nat} {g g':Bool} {m m':Nat} {x x':Int} {d d':Value} {W:World} (h:Dy W d g m x) (r:DR k g m x) (h':Dy W d' g' m' x') (r':DR l g' m' x'):Calls Tryd.prog 42 #[d,d'] W fun e w'=>e=.returned (.bool true)∧Below W.heap.size W w':=by
  have RA:Hid (∀ w,Below W.heap.size W w→Calls Tryd.prog 48 #[d] w fun e w'=>e=.returned (.bool true)∧Below w.heap.size w w'):=Lib.hid (fun w hb=>yright_c (h.below hb) r)
  have RB:Hid (∀ w,Below W.heap.size W w→Calls Tryd.prog 48 #[d'] w fun e w'=>e=.returned (.bool true)∧Below w.heap.size w w'):=Lib.hid (fun w hb=>yright_c (h'.below hb) r')
  obtain ⟨A,c,rfl,_⟩:=h
  obtain ⟨A',c',rfl,_⟩:=h'
  clear r r'
  have B0:Hid (Below W.heap.size W ((W.alloc (.cells #[.bool g,.slice A (lbs m).length c,.int .i64 x] 44)).alloc (.cells #[.bool g',.slice A' (lbs m').length c',.int .i64 x'] 44))):=Lib.hid (by repeat' (first|(with_reducible exact Below.refl _ _)|(with_reducible refine bl_alloc ?_ _)|(with_reducible refine bl_drewN ?_ _)|(with_reducible refine bl_drew ?_)|(with_reducible refine bl_set ?_ _ (by simp))))
  have K0:=Lib.hid (kb_alloc (o':=.cells #[.bool g',.slice A' (lbs m').length c',.int .i64 x'] 44) (kb_new (w:=W) (o:=.cells #[.bool g,.slice A (lbs m).length c,.int .i64 x] 44) (Below.refl _ _)))
  have K1:=Lib.hid (two_y W (.cells #[.bool g,.slice A (lbs m).length c,.int .i64 x] 44) (.cells #[.bool g',.slice A' (lbs m').length c',.int .i64 x'] 44))
  have a0:=kb_cell K0.out (i:=0) rfl
  have a1:=kb_cell K0.out (i:=1) rfl
  have a2:=kb_cell K0.out (i:=2) rfl
  have b0:=kb_cell K1.out (i:=0) rfl
  have b1:=kb_cell K1.out (i:=1) rfl
  have b2:=kb_cell K1.out (i:=2) rfl
  go_enter Tryd.func42,Tryd.ntmps42
  go_wp2_with (go_at_call 48;(with_reducible (first|refine (RA.out _ B0.out).mono ?_|refine (RB.out _ B0.out).mono ?_));rintro e w1 ⟨rfl,hb⟩;have B0:=Lib.hid (bl_then B0.out hb);have K1:=Lib.hid (kb_keep hb K1.out);clear b0 b1 b2;have b0:=kb_cell K1.out (i:=0) rfl;have b1:=kb_cell K1.out (i:=1) rfl;have b2:=kb_cell K1.out (i:=2) rfl;clear hb)
  go_ret
  exact ⟨rfl,B0.out⟩
end Go.Proofs.YtalhpbilkhdfhaaDoor
namespace GFl
open Ieee
def joinOk (fr:Nat) (ex:Int):Prop:=fr=0∧ex=0 ∨ fr % 2=1∧fr < 9007199254740992∧-1074≤ex∧fr * p2 (ex + 1074).toNat < p2 2098
structure IsJoin (ng:Bool) (fr:Nat) (ex:Int) (z:Nat):Prop where
  w:W64 z
  s:neg z=ng
  f:rg z < 9218868437227405312
  m:mg B52 (rg z)=fr * p2 (ex + 1074).toNat
theorem IsJoin.unique {ng:Bool} {fr:Nat} {ex:Int} {y z:Nat} (h:IsJoin ng fr ex y) (h':IsJoin ng fr ex z):y=z :=
  w64_ext h.w h'.w (h.s.trans h'.s.symm) (mg_inj B52_pos (h.m.trans h'.m.symm))
theorem p2_lt {a b:Nat} (h:p2 a < p2 b):a < b:=by
  rcases Nat.lt_or_ge a b with h1|h1
  · exact h1
  · have:=p2_le h1;omega
structure Len (fr n:Nat):Prop where
  pos:1≤n
  lo:p2 (n - 1)≤fr
  hi:fr < p2 n
theorem Len.le53 {fr n:Nat} (h:Len fr n):n≤53 ↔ fr < 9007199254740992:=by
  have e:p2 53=9007199254740992:=by decide +kernel
  rw [← e]
  constructor
  · intro h1;exact Nat.lt_of_lt_of_le h.hi (p2_le h1)
  · intro h1
    have:=p2_lt (Nat.lt_of_le_of_lt h.lo h1)
    omega
theorem Len.fits {fr n:Nat} {ex:Int} (h:Len fr n) (he:-1074≤ex):fr * p2 (ex + 1074).toNat < p2 2098 ↔ ex + n≤1024:=by
  have hp:=h.pos
  constructor
  · intro h1
    have h2:p2 (n - 1) * p2 (ex + 1074).toNat≤fr * p2 (ex + 1074).toNat:=Nat.mul_le_mul_right _ h.lo
    rw [← p2_add] at h2
    have:=p2_lt (Nat.lt_of_le_of_lt h2 h1)
    omega
  · intro h1
    have h2:fr * p2 (ex + 1074).toNat < p2 n * p2 (ex + 1074).toNat:=Nat.mul_lt_mul_of_pos_right h.hi (p2_pos _)
    rw [← p2_add] at h2
    exact Nat.lt_of_lt_of_le h2 (p2_le (by omega))
theorem joinOk_odd {fr n:Nat} {ex:Int} (h:Len fr n) (ho:fr % 2=1):joinOk fr ex ↔ n≤53∧-1074≤ex∧ex + n≤1024:=by
  unfold joinOk
  have h1:=h.le53
  constructor
  · rintro (⟨h2,_⟩|⟨_,h2,h3,h4⟩)
    · omega
    · exact ⟨h1.2 h2,h3,(h.fits h3).1 h4⟩
  · rintro ⟨h2,h3,h4⟩
    exact .inr ⟨ho,h1.1 h2,h3,(h.fits h3).2 h4⟩
theorem joinOk_even {fr:Nat} {ex:Int} (h0:fr ≠ 0) (h:fr % 2=0):¬ joinOk fr ex:=by
  unfold joinOk;omega
theorem joinOk_zero {ex:Int}:joinOk 0 ex ↔ ex=0:=by
  unfold joinOk;omega
theorem isJoin_ld {c fr:Nat} {ex:Int} {z:Nat} (hc:mg B52 (rg c)=fr * p2 1074) (hn:neg c=false) (hf:fr < 9007199254740992) (he:-1074≤ex) (hlt:fr * p2 (ex + 1074).toNat < p2 2098) (h:IsLd c ex z):IsJoin false fr ex z:=by
  obtain ⟨r,hr,e⟩:=h
  rw [hc] at hr
  obtain ⟨q,hq⟩:=rep (B:=B52) fr (ex + 1074).toNat (by unfold B52;omega)
  have hrq:r=q:=by
    refine rn_exact B52_pos (p2_pos _) hr ?_
    rw [hq,Nat.mul_assoc,Nat.mul_assoc,← p2_add,← p2_add]
    congr 2;omega
  have hhi:q < 9218868437227405312:=by
    rw [← mg_lt_iff (B:=B52) B52_pos,hq,mgINF]
    have h2:B52 * p2 2046=p2 2098:=by rw [show B52=p2 52 from by decide +kernel,← p2_add]
    rw [h2];exact hlt
  have hq63:q < 9223372036854775808:=by omega
  rw [hrq,hn,Nat.min_eq_left (Nat.le_of_lt hhi)] at e
  rw [e]
  exact ⟨wd_w hq63,wd_neg hq63,by rw [wd_rg hq63];exact hhi,by rw [wd_rg hq63];exact hq⟩
theorem isJoin_neg {fr:Nat} {ex:Int} {z:Nat} (h:IsJoin false fr ex z):IsJoin true fr ex (wd true (rg z)):=by
  have hl:=rg_lt z
  exact ⟨wd_w hl,wd_neg hl,by rw [wd_rg hl];exact h.f,by rw [wd_rg hl];exact h.m⟩
theorem ofNat64 {n:Nat} (h:n < 9007199254740992):∃ z,double.write (.number false n 0)=z∧W64 z∧neg z=false∧rg z < 9218868437227405312∧mg B52 (rg z)=n * p2 1074:=by
  obtain ⟨r,hr,e⟩:=nearest_rn good_double false n 0
  obtain ⟨q,hq⟩:=rep (B:=B52) n 1074 (by unfold B52;omega)
  have e1:((0:Int) - double.leastPlace).toNat=1074:=by decide
  have e2:(double.leastPlace - 0).toNat=0:=by decide
  rw [d_b,← p2_def,← p2_def,e1,e2,p2_zero] at hr
  have hrq:r=q:=rn_exact B52_pos Nat.one_pos hr (by rw [hq,Nat.mul_one])
  have hhi:q < 9218868437227405312:=by
    rw [← mg_lt_iff (B:=B52) B52_pos,hq,mgINF]
    have h2:B52 * p2 2046=p2 2098:=by rw [show B52=p2 52 from by decide +kernel,← p2_add]
    have h3:(9007199254740992:Nat)=p2 53:=by decide +kernel
    rw [h2]
    refine Nat.lt_of_lt_of_le (Nat.mul_lt_mul_of_pos_right (h3 ▸ h) (p2_pos _)) ?_
    rw [← p2_add];exact p2_le (by decide)
  have hq63:q < 9223372036854775808:=by omega
  refine ⟨wd false q,?_,wd_w hq63,wd_neg hq63,by rw [wd_rg hq63];exact hhi,by rw [wd_rg hq63];exact hq⟩
  show double.nearest false n 0=_
  rw [e,hrq,d_inf,Nat.min_eq_left (Nat.le_of_lt hhi)];rfl
end GFl
namespace GFl
open Ieee Go
theorem write_num (s:Bool) (m:Nat) (e:Int):W64 (double.write (.number s m e))∧neg (double.write (.number s m e))=s∧rg (double.write (.number s m e))≤9218868437227405312:=by
  obtain ⟨r,_,h⟩:=nearest_rn good_double s m e
  have h':double.write (.number s m e)=wd s (min r 9218868437227405312):=by rw [← d_inf];exact h
  have hl:min r 9218868437227405312 < 9223372036854775808:=by omega
  rw [h']
  exact ⟨wd_w hl,wd_neg hl,by rw [wd_rg hl];omega⟩
theorem write_inf (s:Bool):double.write (.infinity s)=wd s 9218868437227405312:=by rw [← d_inf];rfl
theorem read_fin {x:Nat} (hx:W64 x) (hf:rg x < 9218868437227405312):∃ m e,double.read x=.number (neg x) m e:=by
  obtain ⟨m,e,hr,_⟩:=read_num (f:=double) hx (by rw [d_inf];exact hf)
  exact ⟨m,e,hr⟩
theorem sub_self64 {x:Nat} (hx:W64 x) (hf:rg x < 9218868437227405312):double.sub x x=some 0:=by
  obtain ⟨m,e,ex⟩:=read_fin hx hf
  unfold Format.sub
  rw [ex]
  simp only [Datum.opposite,Datum.sum,Option.map_some]
  have h:signed (neg x) m (e - min e e).toNat + signed (!neg x) m (e - min e e).toNat=0:=by
    unfold signed
    cases neg x <;> simp <;> omega
  rw [h,if_pos rfl]
  have hb:(neg x && !neg x)=false:=by cases neg x <;> rfl
  rw [hb]
  show some (double.nearest false 0 (min e e))=some 0
  unfold Format.nearest
  rw [if_pos rfl];decide
end GFl
namespace GFl
open Ieee Ieee.Format
section
variable {f:Format}
theorem sticky_le {D n c:Nat} (hn:0 < n):2 * (D / n) + (D % n != 0).toNat≤2 * c ↔ D≤c * n:=by
  have h1:=Nat.div_add_mod D n
  have h2:=Nat.mod_lt D hn
  rcases Nat.eq_zero_or_pos (D % n) with h0|h0
  · rw [h0] at h1 ⊢
    simp only [bne_self_eq_false,Bool.toNat_false,Nat.add_zero] at h1 ⊢
    rw [← h1,Nat.mul_comm n]
    constructor
    · intro h;rw [Nat.mul_div_cancel _ hn] at h;exact Nat.mul_le_mul_right _ (by omega)
    · intro h;have:=Nat.le_of_mul_le_mul_right h hn;rw [Nat.mul_div_cancel _ hn];omega
  · have e:(D % n != 0)=true:=by simp;omega
    rw [e]
    simp only [Bool.toNat_true]
    constructor
    · intro h
      have:(D / n + 1) * n≤c * n:=Nat.mul_le_mul_right _ (by omega)
      rw [Nat.add_mul,Nat.mul_comm (D / n)] at this;omega
    · intro h
      by_cases hc:D / n + 1≤c
      · omega
      · have:c * n≤(D / n) * n:=Nat.mul_le_mul_right _ (by omega)
        rw [Nat.mul_comm (D / n)] at this;omega
theorem sticky_ge {D n c:Nat} (hn:0 < n):2 * c≤2 * (D / n) + (D % n != 0).toNat ↔ c * n≤D:=by
  rw [← Nat.le_div_iff_mul_le hn]
  have:(D % n != 0).toNat≤1:=by cases (D % n != 0) <;> simp
  omega
theorem mid_form {B:Nat} (hB:0 < B) (k:Nat):∃ u e,mg B k + mg B (k + 1)=u * 2 ^ e∧u < 4 * B:=by
  rw [mg_succ _ _ hB]
  by_cases h:k < B
  · rw [mg_small h,ulp_small h]
    exact ⟨2 * k + 1,0,by simp;omega,by omega⟩
  · have hk:=Nat.div_add_mod k B
    have hm:=Nat.mod_lt k hB
    have hd:1≤k / B:=(Nat.one_le_div_iff hB).2 (by omega)
    have e:k=(k / B - 1 + 1) * B + k % B:=by rw [Nat.sub_add_cancel hd,Nat.mul_comm];exact hk.symm
    rw [e,mg_eq _ _ _ hm,ulp_eq _ _ _ hm]
    refine ⟨2 * (B + k % B) + 1,k / B - 1,?_,by omega⟩
    generalize B + k % B=b
    rw [Nat.add_mul,Nat.mul_assoc,Nat.one_mul];omega
theorem mid_dich {B q:Nat} (hB:0 < B) (hq:2 * B≤q) (a b k:Nat):(∃ c,(mg B k + mg B (k + 1)) * 2 ^ b=4 * 2 ^ a * c) ∨ (mg B k + mg B (k + 1)) * 2 ^ b < 4 * 2 ^ a * q:=by
  obtain ⟨u,e,h,hu⟩:=mid_form hB k
  rw [h,Nat.mul_assoc,← Nat.pow_add]
  by_cases hc:a + 2≤e + b
  · refine .inl ⟨u * 2 ^ (e + b - (a + 2)),?_⟩
    have:4 * 2 ^ a=2 ^ (a + 2):=by rw [Nat.pow_add,Nat.mul_comm]
    rw [this,Nat.mul_left_comm,← Nat.pow_add]
    congr 2;omega
  · refine .inr ?_
    have h1:2 ^ (e + b)≤2 ^ (a + 1):=Nat.pow_le_pow_right (by decide) (by omega)
    rw [Nat.pow_succ] at h1
    have h2:u * 2 ^ (e + b)≤u * (2 ^ a * 2):=Nat.mul_le_mul_left _ h1
    have h3:u * (2 ^ a * 2) < 4 * B * (2 ^ a * 2):=Nat.mul_lt_mul_of_pos_right hu (by have:=Nat.two_pow_pos a;omega)
    have h4:4 * 2 ^ a * (2 * B)≤4 * 2 ^ a * q:=Nat.mul_le_mul_left _ hq
    have h5:4 * B * (2 ^ a * 2)=4 * 2 ^ a * (2 * B):=by rw [Nat.mul_assoc 4 B,Nat.mul_assoc 4 (2 ^ a),Nat.mul_left_comm B,Nat.mul_comm B 2]
    omega
theorem sticky_mid {B D n:Nat} (hB:0 < B) (hn:0 < n) (hq:2 * B≤D / n) (a b k:Nat) :
    (2 * ((2 * (D / n) + (D % n != 0).toNat) * 2 ^ a)≤(mg B k + mg B (k + 1)) * 2 ^ b ↔ 2 * (2 * D * 2 ^ a)≤(mg B k + mg B (k + 1)) * (n * 2 ^ b)) ∧
    ((mg B k + mg B (k + 1)) * 2 ^ b≤2 * ((2 * (D / n) + (D % n != 0).toNat) * 2 ^ a) ↔ (mg B k + mg B (k + 1)) * (n * 2 ^ b)≤2 * (2 * D * 2 ^ a)):=by
  have ha:=Nat.two_pow_pos a
  have eS:∀ S,2 * (S * 2 ^ a)=2 * 2 ^ a * S:=fun S=>by rw [Nat.mul_comm S,Nat.mul_assoc]
  have eD:2 * (2 * D * 2 ^ a)=4 * 2 ^ a * D:=by rw [Nat.mul_comm (2 * D),← Nat.mul_assoc,← Nat.mul_assoc,Nat.mul_right_comm 2,]
  have eM:(mg B k + mg B (k + 1)) * (n * 2 ^ b)=(mg B k + mg B (k + 1)) * 2 ^ b * n:=by rw [Nat.mul_comm n,Nat.mul_assoc]
  have e4:∀ c,4 * 2 ^ a * c=2 * 2 ^ a * (2 * c):=fun c=>by
    rw [← Nat.mul_assoc (2 * 2 ^ a)]
    congr 1
    omega
  rw [eS,eD,eM]
  rcases mid_dich hB hq a b k with ⟨c,hc⟩|hlt
  · rw [hc]
    have h4:0 < 4 * 2 ^ a:=by omega
    have h2:0 < 2 * 2 ^ a:=by omega
    rw [Nat.mul_assoc (4 * 2 ^ a)]
    constructor
    · rw [e4 c,Nat.mul_le_mul_left_iff h2,sticky_le hn,Nat.mul_le_mul_left_iff h4]
    · rw [e4 c,Nat.mul_le_mul_left_iff h2,sticky_ge hn,Nat.mul_le_mul_left_iff h4]
  · generalize (mg B k + mg B (k + 1)) * 2 ^ b=M at *
    have s1:4 * 2 ^ a * (D / n)≤2 * 2 ^ a * (2 * (D / n) + (D % n != 0).toNat):=by rw [e4];exact Nat.mul_le_mul_left _ (by omega)
    have s2:M * n < 4 * 2 ^ a * D:=by
      have t1:M * n < 4 * 2 ^ a * (D / n) * n:=Nat.mul_lt_mul_of_pos_right hlt hn
      have t2:4 * 2 ^ a * (D / n) * n≤4 * 2 ^ a * D:=by rw [Nat.mul_assoc];exact Nat.mul_le_mul_left _ (Nat.div_mul_le_self D n)
      omega
    generalize 2 * 2 ^ a * (2 * (D / n) + (D % n != 0).toNat)=S at *
    constructor <;> constructor <;> intro h <;> omega
theorem IsRn.sticky {B D n a b r:Nat} (hB:0 < B) (hn:0 < n) (hq:2 * B≤D / n) (h:IsRn B ((2 * (D / n) + (D % n != 0).toNat) * 2 ^ a) (2 ^ b) r):IsRn B (2 * D * 2 ^ a) (n * 2 ^ b) r:=by
  refine ⟨?_,?_,?_,?_⟩
  · exact (sticky_mid hB hn hq a b r).1.1 h.up
  · intro e
    have m:=sticky_mid hB hn hq a b r
    exact h.upe (Nat.le_antisymm (m.1.2 (Nat.le_of_eq e)) (m.2.2 (Nat.le_of_eq e.symm)))
  · rintro q rfl
    exact (sticky_mid hB hn hq a b q).2.1 (h.dn q rfl)
  · intro q hq' e
    subst hq'
    have m:=sticky_mid hB hn hq a b q
    exact h.dne q rfl (Nat.le_antisymm (m.2.2 (Nat.le_of_eq e)) (m.1.2 (Nat.le_of_eq e.symm)))
theorem div_fin (g:Good f) {x y:Nat} (hx:x < 2 ^ f.width) (hy:y < 2 ^ f.width) (hx1:rung f x < f.infRung) (hy1:rung f y < f.infRung) (hy0:rung f y ≠ 0) (hL:f.leastPlace≤0) :
    ∃ r,IsRn f.binade (mg f.binade (rung f x) * 2 ^ (-f.leastPlace).toNat) (mg f.binade (rung f y)) r ∧
      f.div x y=some (f.word (sgn f x ^^ sgn f y) (min r f.infRung)):=by
  have hB:=binade_pos f
  obtain ⟨m,i,e1,li,hm,_,hm0⟩:=read_num hx hx1
  obtain ⟨n,j,e2,lj,hn,_,hn0⟩:=read_num hy hy1
  have hnz:n ≠ 0:=fun h=>hy0 (hn0.1 h)
  unfold Format.div
  rw [e1,e2]
  simp only [Datum.quotient,if_neg hnz,Option.map_some,Format.write]
  rw [Nat.shiftLeft_eq]
  generalize hmore:f.fractionBits + 2 + n.log2 - m.log2=more
  obtain ⟨r,hr,hw⟩:=nearest_rn g (sgn f x ^^ sgn f y) (2 * (m * 2 ^ more / n) + (m * 2 ^ more % n != 0).toNat) (i - j - more - 1)
  refine ⟨r,?_,by rw [hw]⟩
  have hmy:0 < mg f.binade (rung f y):=by rw [← hn];exact Nat.mul_pos (Nat.pos_of_ne_zero hnz) (Nat.two_pow_pos _)
  by_cases hmz:m=0
  · subst hmz
    rw [Nat.zero_mul] at hm hr
    rw [← hm,Nat.zero_mul]
    simp only [Nat.zero_div,Nat.mul_zero,Nat.zero_mod,bne_self_eq_false,Bool.toNat_false,Nat.add_zero,Nat.zero_mul] at hr
    rw [hr.unique hB (Nat.two_pow_pos _) (IsRn.zero hB (Nat.two_pow_pos _))]
    exact IsRn.zero hB hmy
  have hq:2 * f.binade≤m * 2 ^ more / n:=by
    rw [Nat.le_div_iff_mul_le (Nat.pos_of_ne_zero hnz)]
    have h1:n < 2 ^ (n.log2 + 1):=Nat.lt_log2_self
    have h2:2 ^ m.log2≤m:=Nat.log2_self_le hmz
    have h3:2 ^ m.log2 * 2 ^ more≤m * 2 ^ more:=Nat.mul_le_mul_right _ h2
    rw [← Nat.pow_add] at h3
    have h4:2 ^ (f.fractionBits + 1 + (n.log2 + 1))≤2 ^ (m.log2 + more):=Nat.pow_le_pow_right (by decide) (by omega)
    have h5:2 * f.binade * n≤2 * f.binade * 2 ^ (n.log2 + 1):=Nat.mul_le_mul_left _ (Nat.le_of_lt h1)
    have h6:2 * f.binade=2 ^ (f.fractionBits + 1):=by rw [Nat.pow_succ,Nat.mul_comm];rfl
    rw [Nat.pow_add,← h6] at h4
    omega
  refine (hr.sticky hB (Nat.pos_of_ne_zero hnz) hq).cross (Nat.mul_pos (Nat.pos_of_ne_zero hnz) (Nat.two_pow_pos _)) hmy ?_
  rw [← hm,← hn]
  have c1:2 * (m * 2 ^ more) * 2 ^ (i - j - more - 1 - f.leastPlace).toNat * (n * 2 ^ (j - f.leastPlace).toNat)=m * n * (2 ^ (1 + more + (i - j - more - 1 - f.leastPlace).toNat + (j - f.leastPlace).toNat)):=by
    rw [Nat.pow_add,Nat.pow_add,Nat.pow_add]
    generalize 2 ^ more=A
    generalize 2 ^ (i - j - more - 1 - f.leastPlace).toNat=A'
    generalize 2 ^ (j - f.leastPlace).toNat=A''
    simp only [Nat.pow_one,Nat.mul_assoc,Nat.mul_comm,Nat.mul_left_comm]
  have c2:m * 2 ^ (i - f.leastPlace).toNat * 2 ^ (-f.leastPlace).toNat * (n * 2 ^ (f.leastPlace - (i - j - more - 1)).toNat)=m * n * (2 ^ ((i - f.leastPlace).toNat + (-f.leastPlace).toNat + (f.leastPlace - (i - j - more - 1)).toNat)):=by
    rw [Nat.pow_add,Nat.pow_add]
    generalize 2 ^ (i - f.leastPlace).toNat=A
    generalize 2 ^ (-f.leastPlace).toNat=A'
    generalize 2 ^ (f.leastPlace - (i - j - more - 1)).toNat=A''
    simp only [Nat.mul_comm,Nat.mul_left_comm]
  rw [c1,c2]
  congr 2
  omega
end
end GFl
namespace GFl
open Ieee
theorem read_fneg {y:Nat} (hy:W64 y):double.read (fneg y)=(double.read y).opposite:=by
  have h1:W64 (fneg y):=fneg_w hy
  have r:fneg y % double.signWeight=y % double.signWeight:=fneg_rg hy
  have s:(fneg y / double.signWeight % 2 == 1)=!(y / double.signWeight % 2 == 1):=by rw [sgn_eq h1,sgn_eq hy];exact fneg_neg hy
  unfold Format.read
  simp only [r,s]
  (repeat' split) <;> rfl
theorem sub_add {x y:Nat} (hy:W64 y):double.sub x y=double.add x (fneg y):=by unfold Format.sub Format.add;rw [read_fneg hy]
end GFl
namespace GFl
open Ieee
structure Nn (x:Nat):Prop where
  w:W64 x
  r:rg x≤9218868437227405312
theorem Nn.isn {x:Nat} (h:Nn x):GFl.isn x=false:=by rw [isn_eq];have:=h.r;simp;omega
def fmul (x y:Nat):Nat:=(double.mul x y).getD 0
theorem fmul_of {x y z:Nat} (h:double.mul x y=some z):fmul x y=z:=by unfold fmul;rw [h];rfl
def cR:Option Nat→List Nat→List Nat→List (Nat × Option Nat)
  | _,[],_=>[]
  | p,a :: d,o=>(a,p) :: cR o.head? d o.tail
end GFl
namespace GFl
open Ieee Go
theorem write_w {d:Datum} (h:∀ s p,d ≠ .nan s p):W64 (double.write d)∧rg (double.write d)≤9218868437227405312:=by
  cases d with
  | nan s p=>exact absurd rfl (h s p)
  | infinity s=>rw [write_inf];exact ⟨wd_w (by omega),by rw [wd_rg (by omega)];omega⟩
  | number s m e=>obtain ⟨h1,_,h3⟩:=write_num s m e;exact ⟨h1,h3⟩
theorem sum_nn {a b d:Datum} (h:a.sum b=some d):∀ s p,d ≠ .nan s p:=by
  intro s p e
  subst e
  cases a <;> cases b <;> simp [Datum.sum] at h
theorem add_opt {x y s:Nat} (h:double.add x y=some s):W64 s∧rg s≤9218868437227405312:=by
  unfold Format.add at h
  obtain ⟨d,hd,rfl⟩:=Option.map_eq_some_iff.1 h
  exact write_w (sum_nn hd)
theorem add_f {x y:Nat} (hx:W64 x) (hy:W64 y) (h1:rg x < 9218868437227405312) (h2:rg y < 9218868437227405312):∃ s,double.add x y=some s∧W64 s∧rg s≤9218868437227405312:=by
  obtain ⟨r,_,e⟩:=add64 hx hy h1 h2
  exact ⟨_,e,add_opt e⟩
theorem sub_any {x y:Nat} (hx:W64 x) (hy:W64 y) (h1:rg x < 9218868437227405312) (h2:rg y≤9218868437227405312):∃ s,double.sub x y=some s∧W64 s∧rg s≤9218868437227405312:=by
  rw [sub_add hy]
  rcases Nat.lt_or_eq_of_le h2 with h|h
  · exact add_f hx (fneg_w hy) h1 (by rw [fneg_rg hy];exact h)
  · obtain ⟨m,e,hr⟩:=read_fin hx h1
    have hi:double.read (fneg y)=.infinity (sgn double (fneg y)):=read_inf (f:=double) (fneg_w hy) (by rw [d_inf];exact (fneg_rg hy).trans h) good_double
    have:double.add x (fneg y)=some (double.write (.infinity (sgn double (fneg y)))):=by
      unfold Format.add;rw [hr,hi];rfl
    exact ⟨_,this,add_opt this⟩
theorem add_same {x y s:Nat} (hx:W64 x) (hy:W64 y) (h1:rg x=0) (h2:rg y=0) (hn:neg x=neg y) (h:double.add x y=some s):s=y:=by
  have e:x=y:=w64_ext hx hy hn (by rw [h1,h2])
  subst e
  have ex:x=wd (neg x) 0:=by rw [← h1];exact w64_wd hx
  rw [ex] at h ⊢
  clear ex hn
  generalize neg x=b at h ⊢
  cases b
  · have:double.add (wd false 0) (wd false 0)=some (wd false 0):=by decide +kernel
    rw [this] at h;exact (Option.some.inj h).symm
  · have:double.add (wd true 0) (wd true 0)=some (wd true 0):=by decide +kernel
    rw [this] at h;exact (Option.some.inj h).symm
def Fo (o:Option Nat) (r:Nat):Prop:=W64 r∧match o with|some y=>r=y|none=>isn r=true
theorem Fo.mk {o:Option Nat} {y:Nat} (h:o=some y) (hw:W64 y):Fo o y:=by subst h;exact ⟨hw,rfl⟩
theorem Fo.nan {o:Option Nat} {y:Nat} (h:o=none) (hw:W64 y) (hn:isn y=true):Fo o y:=by subst h;exact ⟨hw,hn⟩
theorem Fo.same {o:Option Nat} {r s:Nat} (h:Fo o r) (k:Fo o s):sameF r s=true:=by
  obtain ⟨_,h⟩:=h
  obtain ⟨_,k⟩:=k
  cases o with
  | none=>simp only at h k;simp [sameF,h,k]
  | some y=>simp only at h k;simp [sameF,h,k]
end GFl
namespace Go.Proofs.YtalhpbilkhdfhaaDoor
open Go Go.RowKit GFl Ieee
set_option maxRecDepth 100000
attribute [local go_sem] run_f64bits run_f64frombits run_neg_f64
theorem frow1 (x:Nat) (w:World) (t:TypeId):FRow (w.alloc (.cells #[.float .f64 x] t)) w.heap.size [x]:=by
  intro k hk
  have:k=0:=by simpa using hk
  subst this
  exact kb_cell (w:=w.alloc (.cells #[.float .f64 x] t)) Array.getElem?_push_size rfl
theorem rsqrt_c {x r t:Nat} (m:Int) (hx:W64 x) (h0:0 < plc x) (hf:fin x=true) (hp:plainF x=true) (hs:double.sqrt x=some r) (hr:W64 r) (hrn:rg r≤9218868437227405312) (ht:double.fma (fneg r) r x=some t) (hw:W64 t) (w:World) :
    Calls Tryd.prog 15 #[.float .f64 x,.int .i8 m] w fun e w'=>e=.returned (.float .f64 (settleW r (sgI t) (wayI m)))∧Below w.heap.size w w':=by
  have k1:(FloatKind.f64.format.order x 0 == some .lt || FloatKind.f64.format.order x 0 == some .eq)=false:=by
    rw [le0 hx,fin_isn hf];simp;omega
  have D:=run_fma64 ht
  have HF:=Lib.hid hf
  have HP:=Lib.hid hp
  have fn:∀ (w:World) (b:Nat),b=w.heap.size→Calls Tryd.prog 18 #[.slice (some ⟨b,0,none⟩) 1 1] (w.alloc (.cells #[.float .f64 x] 22)) fun e w'=>e=.returned (.bool true)∧w.alloc (.cells #[.float .f64 x] 22)=w':=fun w b hb=>hb ▸
    (finite_c _ [x] (by simp) (by simpa using hx) _ (frow1 x w _)).mono fun _ _ h=>⟨by rw [h.1];simp [HF.out],h.2⟩
  have pl:∀ (w:World) (b:Nat),b=w.heap.size→Calls Tryd.prog 24 #[.slice (some ⟨b,0,none⟩) 1 1] (w.alloc (.cells #[.float .f64 x] 22)) fun e w'=>e=.returned (.bool true)∧w.alloc (.cells #[.float .f64 x] 22)=w':=fun w b hb=>hb ▸
    (plain_c _ [x] (by simp) (by simpa using hx) _ (frow1 x w _)).mono fun _ _ h=>⟨by rw [h.1];simp [HP.out],h.2⟩
  clear hf hp h0
  go_enter Tryd.func15,Tryd.ntmps15
  go_wp2_with (first|(go_at_call 17;refine (way_c _ _).mono ?_;rintro e w' ⟨rfl,rfl⟩)|(go_at_call 35;refine (sqrt_c hs _).mono ?_;rintro e w' ⟨rfl,rfl⟩)|(go_at_call 18;refine (fn _ _ (by simp)).mono ?_;rintro e w' ⟨rfl,rfl⟩)|(go_at_call 24;refine (pl _ _ (by simp)).mono ?_;rintro e w' ⟨rfl,rfl⟩)|(go_at_call 23;refine (sign_c t hw _).mono ?_;rintro e w' ⟨rfl,rfl⟩)|(go_at_call 22;refine (settle_c r _ _ hr hrn _).mono ?_;rintro e w' ⟨rfl,rfl⟩))
  go_ret
  exact ⟨rfl,by repeat' (first|(with_reducible exact Below.refl _ _)|(with_reducible refine bl_alloc ?_ _)|(with_reducible refine bl_drewN ?_ _)|(with_reducible refine bl_drew ?_)|(with_reducible refine bl_set ?_ _ (by simp)))⟩
end Go.Proofs.YtalhpbilkhdfhaaDoor
namespace Go.Proofs.YtalhpbilkhdfhaaDoor
open Go Go.RowKit GFl Ieee
set_option maxRecDepth 100000
set_option linter.unusedSimpArgs false
attribute [local go_sem] run_f64bits run_f64frombits run_neg_f64
theorem fo_of {o:Option Nat} {r:Nat} (h:FR .f64 o r) (hy:∀ y,o=some y→W64 y):Fo o r:=by
  cases o with
  | some y=>have e:r=y:=h;subst e;exact ⟨hy _ rfl,rfl⟩
  | none=>exact ⟨h.2,by
      rw [isn_eq]
      have h1:=h.1
      simp only [FloatKind.format] at h1
      rw [d_inf] at h1
      exact decide_eq_true h1⟩
theorem frow2 (x y:Nat) (w:World) (t:TypeId):FRow (w.alloc (.cells #[.float .f64 x,.float .f64 y] t)) w.heap.size [x,y]:=by
  intro k hk
  have:k=0 ∨ k=1:=by simp at hk;omega
  rcases this with rfl|rfl
  · exact kb_cell (w:=w.alloc (.cells #[.float .f64 x,.float .f64 y] t)) Array.getElem?_push_size rfl
  · exact kb_cell (w:=w.alloc (.cells #[.float .f64 x,.float .f64 y] t)) Array.getElem?_push_size rfl
theorem eqz {x:Nat} (hx:W64 x) (h:rg x≤9218868437227405312):(FloatKind.f64.format.order x 0 == some .eq)=decide (rg x=0):=by
  have h2:isn x=false:=by rw [isn_eq];simp;omega
  rw [eq0 hx,h2]
  simp only [Bool.not_false,Bool.true_and]
  by_cases h0:rg x=0
  · rw [decide_eq_true (plc_zero.2 h0),decide_eq_true h0]
  · rw [decide_eq_false (fun e=>h0 (plc_zero.1 e)),decide_eq_false h0]
theorem nez {x:Nat} (hx:W64 x) (h:rg x≤9218868437227405312):(FloatKind.f64.format.order x 0 != some .eq)=!decide (rg x=0):=by
  rw [← eqz hx h];rfl
theorem abs_lt2 {a b:Nat} (ha:rg a≤9218868437227405312) (hb:rg b≤9218868437227405312):(FloatKind.f64.format.order (fabs a) (fabs b) == some .lt)=decide (rg a < rg b):=by
  have h1:W64 (fabs a):=by unfold fabs;exact W64.mk (by omega)
  have h2:W64 (fabs b):=by unfold fabs;exact W64.mk (by omega)
  have r1:rg (fabs a)=rg a:=by unfold fabs;rw [rg_eq];omega
  have r2:rg (fabs b)=rg b:=by unfold fabs;rw [rg_eq];omega
  have n1:neg (fabs a)=false:=by unfold fabs;rw [neg_eq];simp;omega
  have n2:neg (fabs b)=false:=by unfold fabs;rw [neg_eq];simp;omega
  rw [show FloatKind.f64.format=double from rfl,o_lt h1 h2,isn_eq,isn_eq,r1,r2,plc_eq,plc_eq,n1,n2,r1,r2]
  simp only [if_false,Bool.false_eq_true]
  rw [Bool.eq_iff_iff];simp;omega
def addE (a b s:Nat):Int :=
  if rg a < rg b then sgI ((double.sub a ((double.sub s b).getD 0)).getD 0) else sgI ((double.sub b ((double.sub s a).getD 0)).getD 0)
def addW (a b:Nat) (m:Int) (s:Nat):Nat :=
  if rg s=0 then (if rg a=0∧neg a=neg b then s else if m=1 then 9223372036854775808 else 0)
  else if rg s=9218868437227405312 then settleW s 0 (wayI m) else settleW s (addE a b s) (wayI m)
def addR (a b:Nat) (m:Int):Option Nat:=if (fin a && fin b)=true then (double.add a b).map (addW a b m) else double.add a b
theorem addR_fin {a b s:Nat} {m:Int} (ha:fin a=true) (hb:fin b=true) (h:double.add a b=some s):addR a b m=some (addW a b m s):=by
  unfold addR;rw [ha,hb,h];rfl
theorem addR_no {a b:Nat} {m:Int} (h:(fin a && fin b)=false):addR a b m=double.add a b:=by
  unfold addR;rw [h];rfl
theorem step_w {x:Nat} {u:Bool} (hx:W64 x) (hn:rg x≤9218868437227405312):W64 (stepW x u):=by
  unfold stepW
  have h1:=hx.lt
  have h2:=rg_eq x
  split
  · split <;> exact W64.mk (by omega)
  · split <;> exact W64.mk (by omega)
theorem settle_w {x:Nat} {o m:Int} (hx:W64 x) (hn:rg x≤9218868437227405312):W64 (settleW x o m):=by
  unfold settleW
  split
  · split
    · exact wd_w (by omega)
    · exact hx
  · split
    · exact step_w hx hn
    · exact hx
theorem addW_w {a b s:Nat} {m:Int} (hx:W64 s) (hn:rg s≤9218868437227405312):W64 (addW a b m s):=by
  unfold addW
  split
  · split
    · exact hx
    · split <;> exact W64.mk (by omega)
  · split <;> exact settle_w hx hn
theorem none_c (m:Int) (w:World):Calls Tryd.prog 20 #[.int .i8 m] w fun e w'=>e=.returned (.float .f64 (if m=1 then 9223372036854775808 else 0))∧w=w':=by
  have cs:∀ w,Calls Tryd.prog 37 #[.float .f64 0,.float .f64 13830554455654793216] w fun e w'=>e=.returned (.float .f64 9223372036854775808)∧w=w':=fun w=>(copysign_c _ _ (w_const (by decide)) (w_const (by decide)) w).mono fun _ _ h=>⟨by rw [h.1];rfl,h.2.symm⟩
  by_cases h:m=1
  · subst h
    go_enter Tryd.func20,Tryd.ntmps20
    go_wp2_with (go_at_call 37;refine (cs _).mono ?_;rintro e w' ⟨rfl,rfl⟩)
    go_ret
    exact ⟨rfl,rfl⟩
  · have k:(m == 1)=false:=by rw [beq_eq_false_iff_ne];exact h
    rw [if_neg h]
    go_enter Tryd.func20,Tryd.ntmps20
    go_wp2
    go_ret
    exact ⟨rfl,rfl⟩
set_option maxHeartbeats 4000000 in
theorem radd_c (a b:Nat) (m:Int) (ha:W64 a) (hb:W64 b) (w:World) :
    Calls Tryd.prog 6 #[.float .f64 a,.float .f64 b,.int .i8 m] w fun e w'=>∃ r,e=.returned (.float .f64 r)∧Fo (addR a b m) r∧Below w.heap.size w w':=by
  have fn:∀ (w:World) (bl:Nat),bl=w.heap.size→Calls Tryd.prog 18 #[.slice (some ⟨bl,0,none⟩) 2 2] (w.alloc (.cells #[.float .f64 a,.float .f64 b] 22)) fun e w'=>e=.returned (.bool (fin a && fin b))∧w.alloc (.cells #[.float .f64 a,.float .f64 b] 22)=w':=fun w bl h=>h ▸
    (finite_c _ [a,b] (by simp) (by simp [ha,hb]) _ (frow2 a b w _)).mono fun _ _ h=>⟨by rw [h.1];simp,h.2⟩
  have B0:Hid (∀ w1 n,Below w.heap.size w w1→Below w.heap.size w ((w1.drewN n).alloc (.cells #[.float .f64 a,.float .f64 b] 22))):=Lib.hid (fun w1 n h=>bl_alloc (bl_drewN h n) _)
  by_cases hf:(fin a && fin b)=true
  · have fa:fin a=true:=by cases h:fin a <;> rw [h] at hf <;> simp at hf ⊢
    have fb:fin b=true:=by cases h:fin b <;> rw [h,fa] at hf <;> simp at hf ⊢
    have ra:rg a < 9218868437227405312:=by unfold fin at fa;simpa using fa
    have rb:rg b < 9218868437227405312:=by unfold fin at fb;simpa using fb
    obtain ⟨s,hs,sw,sr⟩:=add_f ha hb ra rb
    have AR:=Lib.hid (addR_fin (m:=m) fa fb hs)
    have AW:=Lib.hid (addW_w (a:=a) (b:=b) (m:=m) sw sr)
    rw [hf] at fn
    have FN:=Lib.hid fn
    have d0:∀ (t:TypeId) w,(binOp .add t (.float .f64 a) (.float .f64 b)).run Tryd.prog w=.ok (.float .f64 s) w:=fun t w=>run_float_arith w .add t .f64 a b s hs
    have e0:=eqz sw sr
    have e1:=nez ha (by omega)
    have WC:=Lib.hid (fun w=>way_c m w)
    have NC:=Lib.hid (fun w=>none_c (wayI m) w)
    have sga:Hid (∀ w,Calls Tryd.prog 19 #[.float .f64 a] w fun e w'=>e=.returned (.bool (neg a))∧w=w'):=Lib.hid (fun w=>(signbit_c a ha w).mono fun _ _ h=>⟨h.1,h.2.symm⟩)
    have sgb:Hid (∀ w,Calls Tryd.prog 19 #[.float .f64 b] w fun e w'=>e=.returned (.bool (neg b))∧w=w'):=Lib.hid (fun w=>(signbit_c b hb w).mono fun _ _ h=>⟨h.1,h.2.symm⟩)
    have ii:Hid (∀ w,Calls Tryd.prog 21 #[.float .f64 s,.int .i64 0] w fun e w'=>e=.returned (.bool (decide (rg s=9218868437227405312)))∧w=w'):=Lib.hid (fun w=>(isInf_c s 0 sw w).mono fun _ _ h=>⟨by rw [h.1];unfold infS;simp,h.2.symm⟩)
    have SC:Hid (∀ off w,Calls Tryd.prog 22 #[.float .f64 s,.int .i64 off,.int .i8 (wayI m)] w fun e w'=>e=.returned (.float .f64 (settleW s off (wayI m)))∧w=w'):=Lib.hid (fun off w=>settle_c s off (wayI m) sw sr w)
    have wm:wayI m=1 ↔ m=1:=by unfold wayI;split <;> omega
    have WM:Hid ((if wayI m=1 then 9223372036854775808 else 0)=(if m=1 then 9223372036854775808 else 0)):=Lib.hid (by simp only [wm])
    obtain ⟨Z,hZ⟩:∃ Z:Nat,(if wayI m=1 then 9223372036854775808 else 0)=Z:=⟨_,rfl⟩
    rw [hZ] at NC WM
    clear fn hf wm hZ
    by_cases z0:rg s=0
    · rw [decide_eq_true z0] at e0
      by_cases z1:rg a=0
      · rw [decide_eq_true z1] at e1
        have e1:(FloatKind.f64.format.order a 0 != some .eq)=false:=e1
        by_cases z2:neg a=neg b
        · have k2:(neg a != neg b)=false:=by rw [z2];simp
          have RS:Hid (addW a b m s=s):=Lib.hid (by unfold addW;rw [if_pos z0,if_pos ⟨z1,z2⟩])
          rw [RS.out] at AR
          obtain ⟨na,hna⟩:∃ x,neg a=x:=⟨_,rfl⟩
          obtain ⟨nb,hnb⟩:∃ x,neg b=x:=⟨_,rfl⟩
          rw [hna,hnb] at k2
          rw [hna] at sga
          rw [hnb] at sgb
          have SW:=Lib.hid sw
          clear z0 z1 z2 hna hnb sw sr ra rb fa fb ha hb hs
          cases na <;> cases nb
          all_goals first
            | (exfalso;revert k2;decide)
            | (clear k2
               go_enter Tryd.func6,Tryd.ntmps6
               go_wp2_with (first|(go_at_call 17;refine (WC.out _).mono ?_;rintro e w' ⟨rfl,rfl⟩)|(go_at_call 18;refine (FN.out _ _ (by simp)).mono ?_;rintro e w' ⟨rfl,rfl⟩)|(go_at_call 19;(with_reducible (first|refine (sga.out _).mono ?_|refine (sgb.out _).mono ?_));rintro e w' ⟨rfl,rfl⟩))
               go_ret
               exact ⟨_,rfl,Fo.mk AR.out SW.out,by repeat' (first|(with_reducible exact Below.refl _ _)|(with_reducible refine bl_alloc ?_ _)|(with_reducible refine bl_drewN ?_ _)|(with_reducible refine bl_drew ?_)|(with_reducible refine bl_set ?_ _ (by simp)))⟩)
        · have k2:(neg a != neg b)=true:=by simpa using z2
          have RS:Hid (addW a b m s=Z):=Lib.hid (by unfold addW;rw [WM.out,if_pos z0,if_neg (fun h=>z2 h.2)])
          rw [RS.out] at AR AW
          obtain ⟨na,hna⟩:∃ x,neg a=x:=⟨_,rfl⟩
          obtain ⟨nb,hnb⟩:∃ x,neg b=x:=⟨_,rfl⟩
          rw [hna,hnb] at k2
          rw [hna] at sga
          rw [hnb] at sgb
          clear z0 z1 z2 hna hnb sw sr ra rb fa fb ha hb hs
          cases na <;> cases nb
          all_goals first
            | (exfalso;revert k2;decide)
            | (clear k2
               go_enter Tryd.func6,Tryd.ntmps6
               go_wp2_with (first|(go_at_call 17;refine (WC.out _).mono ?_;rintro e w' ⟨rfl,rfl⟩)|(go_at_call 18;refine (FN.out _ _ (by simp)).mono ?_;rintro e w' ⟨rfl,rfl⟩)|(go_at_call 19;(with_reducible (first|refine (sga.out _).mono ?_|refine (sgb.out _).mono ?_));rintro e w' ⟨rfl,rfl⟩)|(go_at_call 20;refine (NC.out _).mono ?_;rintro e w' ⟨rfl,rfl⟩))
               go_ret
               exact ⟨_,rfl,Fo.mk AR.out AW.out,by repeat' (first|(with_reducible exact Below.refl _ _)|(with_reducible refine bl_alloc ?_ _)|(with_reducible refine bl_drewN ?_ _)|(with_reducible refine bl_drew ?_)|(with_reducible refine bl_set ?_ _ (by simp)))⟩)
      · rw [decide_eq_false z1] at e1
        have e1:(FloatKind.f64.format.order a 0 != some .eq)=true:=e1
        have RS:Hid (addW a b m s=Z):=Lib.hid (by unfold addW;rw [WM.out,if_pos z0,if_neg (fun h=>z1 h.1)])
        rw [RS.out] at AR AW
        clear z0 z1 sw sr ra rb fa fb ha hb hs
        go_enter Tryd.func6,Tryd.ntmps6
        go_wp2_with (first|(go_at_call 17;refine (WC.out _).mono ?_;rintro e w' ⟨rfl,rfl⟩)|(go_at_call 18;refine (FN.out _ _ (by simp)).mono ?_;rintro e w' ⟨rfl,rfl⟩)|(go_at_call 20;refine (NC.out _).mono ?_;rintro e w' ⟨rfl,rfl⟩))
        go_ret
        exact ⟨_,rfl,Fo.mk AR.out AW.out,by repeat' (first|(with_reducible exact Below.refl _ _)|(with_reducible refine bl_alloc ?_ _)|(with_reducible refine bl_drewN ?_ _)|(with_reducible refine bl_drew ?_)|(with_reducible refine bl_set ?_ _ (by simp)))⟩
    · rw [decide_eq_false z0] at e0
      clear e1
      by_cases z1:rg s=9218868437227405312
      · have RS:Hid (addW a b m s=settleW s 0 (wayI m)):=Lib.hid (by unfold addW;rw [if_neg z0,if_pos z1])
        rw [RS.out] at AR AW
        rw [decide_eq_true z1] at ii
        clear z0 z1 sw sr ra rb fa fb ha hb hs
        go_enter Tryd.func6,Tryd.ntmps6
        go_wp2_with (first|(go_at_call 17;refine (WC.out _).mono ?_;rintro e w' ⟨rfl,rfl⟩)|(go_at_call 18;refine (FN.out _ _ (by simp)).mono ?_;rintro e w' ⟨rfl,rfl⟩)|(go_at_call 21;refine (ii.out _).mono ?_;rintro e w' ⟨rfl,rfl⟩)|(go_at_call 22;refine (SC.out _ _).mono ?_;rintro e w' ⟨rfl,rfl⟩))
        go_ret
        exact ⟨_,rfl,Fo.mk AR.out AW.out,by repeat' (first|(with_reducible exact Below.refl _ _)|(with_reducible refine bl_alloc ?_ _)|(with_reducible refine bl_drewN ?_ _)|(with_reducible refine bl_drew ?_)|(with_reducible refine bl_set ?_ _ (by simp)))⟩
      · rw [decide_eq_false z1] at ii
        have sf:rg s < 9218868437227405312:=by omega
        have abA:Hid (∀ w,Calls Tryd.prog 14 #[.float .f64 a] w fun e w'=>e=.returned (.float .f64 (fabs a))∧w'=w):=Lib.hid (fun w=>abs_c a ha w)
        have abB:Hid (∀ w,Calls Tryd.prog 14 #[.float .f64 b] w fun e w'=>e=.returned (.float .f64 (fabs b))∧w'=w):=Lib.hid (fun w=>abs_c b hb w)
        have al:=abs_lt2 (a:=a) (b:=b) (by omega) (by omega)
        by_cases z2:rg a < rg b
        · rw [decide_eq_true z2] at al
          obtain ⟨t,ht,tw,tr⟩:=sub_any sw hb sf (by omega)
          obtain ⟨u,hu,uw,ur⟩:=sub_any ha tw ra tr
          have d1:∀ (t':TypeId) w,(binOp .sub t' (.float .f64 s) (.float .f64 b)).run Tryd.prog w=.ok (.float .f64 t) w:=fun t' w=>run_float_arith w .sub t' .f64 s b t ht
          have d2:∀ (t':TypeId) w,(binOp .sub t' (.float .f64 a) (.float .f64 t)).run Tryd.prog w=.ok (.float .f64 u) w:=fun t' w=>run_float_arith w .sub t' .f64 a t u hu
          have sc:Hid (∀ w,Calls Tryd.prog 23 #[.float .f64 u] w fun e w'=>e=.returned (.int .i64 (sgI u))∧w=w'):=Lib.hid (fun w=>sign_c u uw w)
          have RS:Hid (addW a b m s=settleW s (sgI u) (wayI m)):=Lib.hid (by unfold addW addE;rw [if_neg z0,if_neg z1,if_pos z2,ht,Option.getD_some,hu,Option.getD_some])
          rw [RS.out] at AR AW
          clear z0 z1 z2 sw sr ra rb fa fb ha hb hs sf ht tw tr hu uw ur
          go_enter Tryd.func6,Tryd.ntmps6
          go_wp2_with (first|(go_at_call 17;refine (WC.out _).mono ?_;rintro e w' ⟨rfl,rfl⟩)|(go_at_call 18;refine (FN.out _ _ (by simp)).mono ?_;rintro e w' ⟨rfl,rfl⟩)|(go_at_call 21;refine (ii.out _).mono ?_;rintro e w' ⟨rfl,rfl⟩)|(go_at_call 14;(with_reducible (first|refine (abA.out _).mono ?_|refine (abB.out _).mono ?_));rintro e w' ⟨rfl,hw⟩;obtain rfl:=hw)|(go_at_call 23;refine (sc.out _).mono ?_;rintro e w' ⟨rfl,rfl⟩)|(go_at_call 22;refine (SC.out _ _).mono ?_;rintro e w' ⟨rfl,rfl⟩))
          go_ret
          exact ⟨_,rfl,Fo.mk AR.out AW.out,by repeat' (first|(with_reducible exact Below.refl _ _)|(with_reducible refine bl_alloc ?_ _)|(with_reducible refine bl_drewN ?_ _)|(with_reducible refine bl_drew ?_)|(with_reducible refine bl_set ?_ _ (by simp)))⟩
        · rw [decide_eq_false z2] at al
          obtain ⟨t,ht,tw,tr⟩:=sub_any sw ha sf (by omega)
          obtain ⟨u,hu,uw,ur⟩:=sub_any hb tw rb tr
          have d1:∀ (t':TypeId) w,(binOp .sub t' (.float .f64 s) (.float .f64 a)).run Tryd.prog w=.ok (.float .f64 t) w:=fun t' w=>run_float_arith w .sub t' .f64 s a t ht
          have d2:∀ (t':TypeId) w,(binOp .sub t' (.float .f64 b) (.float .f64 t)).run Tryd.prog w=.ok (.float .f64 u) w:=fun t' w=>run_float_arith w .sub t' .f64 b t u hu
          have sc:Hid (∀ w,Calls Tryd.prog 23 #[.float .f64 u] w fun e w'=>e=.returned (.int .i64 (sgI u))∧w=w'):=Lib.hid (fun w=>sign_c u uw w)
          have RS:Hid (addW a b m s=settleW s (sgI u) (wayI m)):=Lib.hid (by unfold addW addE;rw [if_neg z0,if_neg z1,if_neg z2,ht,Option.getD_some,hu,Option.getD_some])
          rw [RS.out] at AR AW
          clear z0 z1 z2 sw sr ra rb fa fb ha hb hs sf ht tw tr hu uw ur
          go_enter Tryd.func6,Tryd.ntmps6
          go_wp2_with (first|(go_at_call 17;refine (WC.out _).mono ?_;rintro e w' ⟨rfl,rfl⟩)|(go_at_call 18;refine (FN.out _ _ (by simp)).mono ?_;rintro e w' ⟨rfl,rfl⟩)|(go_at_call 21;refine (ii.out _).mono ?_;rintro e w' ⟨rfl,rfl⟩)|(go_at_call 14;(with_reducible (first|refine (abA.out _).mono ?_|refine (abB.out _).mono ?_));rintro e w' ⟨rfl,hw⟩;obtain rfl:=hw)|(go_at_call 23;refine (sc.out _).mono ?_;rintro e w' ⟨rfl,rfl⟩)|(go_at_call 22;refine (SC.out _ _).mono ?_;rintro e w' ⟨rfl,rfl⟩))
          go_ret
          exact ⟨_,rfl,Fo.mk AR.out AW.out,by repeat' (first|(with_reducible exact Below.refl _ _)|(with_reducible refine bl_alloc ?_ _)|(with_reducible refine bl_drewN ?_ _)|(with_reducible refine bl_drew ?_)|(with_reducible refine bl_set ?_ _ (by simp)))⟩
  · have hf':(fin a && fin b)=false:=by simpa using hf
    have AR:=Lib.hid (addR_no (m:=m) hf')
    rw [hf'] at fn
    have FN:=Lib.hid fn
    have WC:=Lib.hid (fun w=>way_c m w)
    clear fn hf hf' ha hb
    go_enter Tryd.func6,Tryd.ntmps6
    go_wp2_with (first|(go_at_call 17;refine (WC.out _).mono ?_;rintro e w' ⟨rfl,rfl⟩)|(refine wp_arith .f64 a b rfl rfl rfl ?_;intro r n hr;have HR:=Lib.hid (fo_of hr (fun y hy=>(add_opt hy).1));clear hr)|(go_at_call 18;refine (FN.out _ _ (by simp)).mono ?_;rintro e w' ⟨rfl,rfl⟩))
    go_ret
    exact ⟨_,rfl,by rw [AR.out];exact HR.out,by repeat' (first|(with_reducible exact Below.refl _ _)|(with_reducible refine bl_alloc ?_ _)|(with_reducible refine bl_drewN ?_ _)|(with_reducible refine bl_drew ?_)|(with_reducible refine bl_set ?_ _ (by simp)))⟩
end Go.Proofs.YtalhpbilkhdfhaaDoor
namespace Go.Proofs.YtalhpbilkhdfhaaDoor
open Go Go.RowKit GFl Ieee
set_option maxRecDepth 100000
theorem one_mg1:mg B52 1=1:=by decide +kernel
theorem fma64 {x y z:Nat} (hx:W64 x) (hy:W64 y) (hz:W64 z) (fx:rg x < 9218868437227405312) (fy:rg y < 9218868437227405312) (fz:rg z < 9218868437227405312) :
    ∃ t r,double.fma x y z=some t∧W64 t∧rg t=min r 9218868437227405312∧IsRn B52 (val x * val y + val z * ((p2 1074:Nat):Int)).natAbs (p2 1074) r∧(val x * val y + val z * ((p2 1074:Nat):Int) ≠ 0→neg t=decide (val x * val y + val z * ((p2 1074:Nat):Int) < 0)):=by
  obtain ⟨m,i,ex,li,hm,_,_⟩:=read_num (f:=double) hx (by rw [d_inf];exact fx)
  obtain ⟨n,j,ey,lj,hn,_,_⟩:=read_num (f:=double) hy (by rw [d_inf];exact fy)
  obtain ⟨l,k,ez,lk,hl,_,_⟩:=read_num (f:=double) hz (by rw [d_inf];exact fz)
  rw [d_l] at li lj lk hm hn hl
  rw [← p2_def] at hm hn hl
  unfold Format.fma
  rw [ex,ey,ez]
  simp only [Datum.product,Option.bind_some,Datum.sum,Option.map_some,Format.write]
  have hb1:min (i + j) k≤i + j:=by omega
  have hb2:min (i + j) k≤k:=by omega
  have hb3:-2148≤min (i + j) k:=by omega
  generalize min (i + j) k=base at *
  have c1:signed (sgn double x ^^ sgn double y) (m * n) (i + j - base).toNat * ((p2 (base + 2148).toNat:Nat):Int)=val x * val y:=by
    have e:m * n * p2 (i + j - base).toNat * p2 (base + 2148).toNat=mg double.binade (rung double x) * mg double.binade (rung double y):=by
      rw [← hm,← hn]
      have:m * p2 (i - -1074).toNat * (n * p2 (j - -1074).toNat)=m * n * (p2 (i - -1074).toNat * p2 (j - -1074).toNat):=by
        rw [Nat.mul_assoc,Nat.mul_assoc m n];congr 1;rw [Nat.mul_left_comm]
      rw [this,Nat.mul_assoc (m * n),← p2_add,← p2_add]
      congr 2;omega
    rw [signed_eq,← p2_def]
    show _=sv double x * sv double y
    unfold sv
    cases sgn double x <;> cases sgn double y <;> simp only [Bool.xor_false,Bool.xor_true,Bool.not_true,Bool.not_false,Bool.false_eq_true,if_true,if_false,Int.neg_mul,Int.mul_neg,Int.neg_neg,← Int.natCast_mul,e]
  have c2:signed (sgn double z) l (k - base).toNat * ((p2 (base + 2148).toNat:Nat):Int)=val z * ((p2 1074:Nat):Int):=by
    have e:l * p2 (k - base).toNat * p2 (base + 2148).toNat=mg double.binade (rung double z) * p2 1074:=by
      rw [← hl,Nat.mul_assoc,Nat.mul_assoc,← p2_add,← p2_add]
      congr 2;omega
    rw [signed_eq,← p2_def]
    show _=sv double z * _
    unfold sv
    cases sgn double z <;> simp only [Bool.false_eq_true,if_true,if_false,Int.neg_mul,← Int.natCast_mul,e]
  generalize signed (sgn double x ^^ sgn double y) (m * n) (i + j - base).toNat=S at *
  generalize signed (sgn double z) l (k - base).toNat=T at *
  rw [← c1,← c2,← Int.add_mul]
  obtain ⟨r,hr,hw⟩:=nearest_rn good_double (if S + T=0 then (sgn double x ^^ sgn double y) && sgn double z else decide (S + T < 0)) (S + T).natAbs base
  have hlt:min r 9218868437227405312 < 9223372036854775808:=by omega
  have hU:0 < p2 (base + 2148).toNat:=p2_pos _
  refine ⟨wd (if S + T=0 then (sgn double x ^^ sgn double y) && sgn double z else decide (S + T < 0)) (min r 9218868437227405312),r,?_,wd_w hlt,wd_rg hlt,?_,?_⟩
  · rw [hw,d_inf];rfl
  · rw [d_l,← p2_def,← p2_def] at hr
    refine hr.cross (p2_pos _) (p2_pos _) ?_
    rw [Int.natAbs_mul,Int.natAbs_natCast,Nat.mul_assoc,Nat.mul_assoc,← p2_add,← p2_add]
    congr 2;omega
  · intro hne
    have h0:S + T ≠ 0:=fun h=>hne (by rw [h,Int.zero_mul])
    rw [wd_neg hlt,if_neg h0]
    rw [decide_eq_decide]
    have hU':(0:Int) < ((p2 (base + 2148).toNat:Nat):Int):=by omega
    generalize ((p2 (base + 2148).toNat:Nat):Int)=U at *
    constructor
    · intro h;exact Int.mul_neg_of_neg_of_pos h hU'
    · intro h
      by_cases h1:S + T < 0
      · exact h1
      · have:=Int.mul_nonneg (Int.not_lt.1 h1) (Int.le_of_lt hU');omega
theorem sgI_val {x:Nat} (h:rg x≤9218868437227405312):sgI x=(val x).sign:=by
  have hn:isn x=false:=by rw [isn_eq];simp;omega
  unfold sgI
  rw [hn,if_neg (by simp),plc_eq,val_eq']
  have h0:mg B52 (rg x)=0 ↔ rg x=0:=by
    have:=@mg_lt_iff B52 0 (rg x) B52_pos
    rw [mg_zero _ B52_pos] at this
    omega
  show _=(if neg x=true then -((mg B52 (rg x):Nat):Int) else ((mg B52 (rg x):Nat):Int)).sign
  rcases Nat.eq_zero_or_pos (rg x) with hz|hz
  · rw [hz,mg_zero _ B52_pos];cases neg x <;> rfl
  · have hm:0 < mg B52 (rg x):=by omega
    cases neg x
    · simp only [Bool.false_eq_true,if_false]
      rw [if_pos (by omega),Int.sign_eq_one_of_pos (by omega)]
    · simp only [if_true]
      rw [if_neg (by omega),if_pos (by omega),Int.sign_eq_neg_one_of_neg (by omega)]
theorem fma_sg {x y z:Nat} (hx:W64 x) (hy:W64 y) (hz:W64 z) (fx:rg x < 9218868437227405312) (fy:rg y < 9218868437227405312) (fz:rg z < 9218868437227405312)
    (hd:((p2 1074:Nat):Int) ∣ val x * val y):∃ t,double.fma x y z=some t∧W64 t∧sgI t=(val x * val y + val z * ((p2 1074:Nat):Int)).sign:=by
  obtain ⟨t,r,h1,h2,h3,h4,h5⟩:=fma64 hx hy hz fx fy fz
  refine ⟨t,h1,h2,?_⟩
  have hdv:((p2 1074:Nat):Int) ∣ val x * val y + val z * ((p2 1074:Nat):Int):=Int.dvd_add hd (Int.dvd_mul_left _ _)
  generalize val x * val y + val z * ((p2 1074:Nat):Int)=v at *
  have hD:0 < p2 1074:=p2_pos _
  have hn:isn t=false:=by rw [isn_eq];simp;omega
  unfold sgI
  rw [hn,if_neg (by simp),plc_eq]
  by_cases h0:v=0
  · subst h0
    have hr0:r=0:=h4.unique B52_pos hD (IsRn.zero B52_pos hD)
    rw [hr0] at h3
    rw [h3]
    cases neg t <;> rfl
  · have hr1:1≤r:=by
      have e1:IsRn B52 (mg B52 1 * p2 1074) (p2 1074) 1:=IsRn.exact B52_pos hD
      refine e1.mono B52_pos hD hD h4 (Nat.mul_le_mul_right _ ?_)
      rw [one_mg1,Nat.one_mul]
      have h6:=Int.natAbs_dvd_natAbs.2 hdv
      rw [Int.natAbs_natCast] at h6
      exact Nat.le_of_dvd (by omega) h6
    have h6:=h5 h0
    have h7:1≤rg t:=by omega
    rw [h6]
    by_cases hneg:v < 0
    · rw [decide_eq_true hneg]
      simp only [if_true]
      rw [if_neg (by omega),if_pos (by omega),Int.sign_eq_neg_one_of_neg hneg]
    · rw [decide_eq_false hneg]
      simp only [Bool.false_eq_true,if_false]
      rw [if_pos (by omega),Int.sign_eq_one_of_pos (by omega)]
theorem p2_53:p2 53=9007199254740992:=by decide +kernel
theorem ulp_dvd (r:Nat):∃ k,p2 k ∣ mg B52 r∧mg B52 r < p2 (k + 53):=by
  by_cases h:r < B52
  · refine ⟨0,by rw [p2_zero];exact Nat.one_dvd _,?_⟩
    rw [mg_small h,Nat.zero_add,p2_53]
    unfold B52 at h
    omega
  · obtain ⟨s,t,ht,rfl⟩:=rung_split B52_pos (by omega:B52≤r)
    refine ⟨s,?_,?_⟩
    · rw [mg_eq B52 s t ht,p2_def];exact Nat.dvd_mul_left _ _
    · rw [mg_eq B52 s t ht,p2_add,Nat.mul_comm (p2 s),← p2_def]
      refine Nat.mul_lt_mul_of_pos_right ?_ (p2_pos s)
      rw [p2_53]
      unfold B52 at ht ⊢
      omega
theorem dvd_two {a b:Nat} (h:p2 1180≤mg B52 a * mg B52 b):p2 1074 ∣ mg B52 a * mg B52 b:=by
  obtain ⟨k,h1,h2⟩:=ulp_dvd a
  obtain ⟨l,h3,h4⟩:=ulp_dvd b
  have h5:mg B52 a * mg B52 b < p2 (k + 53 + (l + 53)):=by rw [p2_add];exact Nat.mul_lt_mul_of_lt_of_lt h2 h4
  have h6:1180 < k + 53 + (l + 53):=p2_lt (Nat.lt_of_le_of_lt h h5)
  have h7:p2 (k + l) ∣ mg B52 a * mg B52 b:=by rw [p2_add];exact Nat.mul_dvd_mul h1 h3
  have h8:p2 1074 ∣ p2 (k + l):=by rw [p2_split (show 1074≤k + l by omega)];exact Nat.dvd_mul_left _ _
  exact Nat.dvd_trans h8 h7
theorem val_natAbs (x:Nat):(val x).natAbs=mg B52 (rg x):=by rw [val_eq'];cases neg x <;> simp
theorem dvd_val {x y:Nat} (h:p2 1180≤mg B52 (rg x) * mg B52 (rg y)):((p2 1074:Nat):Int) ∣ val x * val y:=by
  rw [← Int.natAbs_dvd_natAbs,Int.natAbs_natCast,Int.natAbs_mul,val_natAbs,val_natAbs]
  exact dvd_two h
theorem mg_big {r:Nat} (h:553942754166571008≤r):p2 174≤mg B52 r:=by
  refine Nat.le_trans ?_ (mg_mono B52_pos h)
  have:mg B52 553942754166571008=B52 * p2 122:=mg_B 123 0 (by decide) (by decide)
  rw [this];decide +kernel
def mulS (a b p:Nat):Int:=(val a * val b - val p * ((p2 1074:Nat):Int)).sign
theorem mul64x {a b:Nat} (ha:W64 a) (hb:W64 b) (fa:rg a < 9218868437227405312) (fb:rg b < 9218868437227405312):∃ p r,double.mul a b=some p∧W64 p∧rg p=min r 9218868437227405312∧neg p=(neg a ^^ neg b)∧IsRn B52 (mg B52 (rg a) * mg B52 (rg b)) (p2 1074) r:=by
  obtain ⟨r,h1,h2⟩:=mul_fin good_double ha hb (by rw [d_inf];exact fa) (by rw [d_inf];exact fb) (by rw [d_l];decide)
  have hlt:min r 9218868437227405312 < 9223372036854775808:=by omega
  rw [d_l,← p2_def] at h1
  rw [d_inf] at h2
  exact ⟨wd (neg a ^^ neg b) (min r 9218868437227405312),r,h2,wd_w hlt,wd_rg hlt,wd_neg hlt,h1⟩
theorem mul_side {a b p:Nat} (ha:W64 a) (hb:W64 b) (fa:rg a < 9218868437227405312) (fb:rg b < 9218868437227405312) (hp:double.mul a b=some p) (fp:rg p < 9218868437227405312) (hg:553942754166571008≤rg p) :
    ∃ t,double.fma a b (fneg p)=some t∧W64 t∧sgI t=mulS a b p:=by
  obtain ⟨p',r,h1,h2,h3,_,h4⟩:=mul64x ha hb fa fb
  rw [hp] at h1
  obtain rfl:=Option.some.inj h1
  have hr:r=rg p:=by omega
  subst hr
  have big:p2 1180≤mg B52 (rg a) * mg B52 (rg b):=by
    have h5:=h4.dn (rg p - 1) (by omega)
    have h6:=mg_big hg
    have h7:mg B52 (rg p) * p2 1074≤2 * (mg B52 (rg a) * mg B52 (rg b)):=Nat.le_trans (Nat.mul_le_mul_right _ (by omega)) h5
    have h8:p2 174 * p2 1074≤mg B52 (rg p) * p2 1074:=Nat.mul_le_mul_right _ h6
    have h9:2 * p2 1180≤p2 174 * p2 1074:=by decide +kernel
    omega
  obtain ⟨t,h5,h6,h7⟩:=fma_sg ha hb (fneg_w h2) fa fb (by rw [fneg_rg h2];exact fp) (dvd_val big)
  refine ⟨t,h5,h6,?_⟩
  rw [h7,fneg_val h2,Int.neg_mul,← Int.sub_eq_add_neg];rfl
def divS (a b q:Nat):Int:=(val a * ((p2 1074:Nat):Int) - val q * val b).sign * (val b).sign
theorem div64x {a b:Nat} (ha:W64 a) (hb:W64 b) (fa:rg a < 9218868437227405312) (fb:rg b < 9218868437227405312) (hb0:rg b ≠ 0):∃ q r,double.div a b=some q∧W64 q∧rg q=min r 9218868437227405312∧neg q=(neg a ^^ neg b)∧IsRn B52 (mg B52 (rg a) * p2 1074) (mg B52 (rg b)) r:=by
  obtain ⟨r,h1,h2⟩:=div_fin good_double ha hb (by rw [d_inf];exact fa) (by rw [d_inf];exact fb) hb0 (by rw [d_l];decide)
  have hlt:min r 9218868437227405312 < 9223372036854775808:=by omega
  rw [d_l,← p2_def] at h1
  rw [d_inf] at h2
  exact ⟨wd (neg a ^^ neg b) (min r 9218868437227405312),r,h2,wd_w hlt,wd_rg hlt,wd_neg hlt,h1⟩
theorem mg_dbl {r:Nat} (h:1≤r):mg B52 (r + 1)≤2 * mg B52 r:=by
  rw [mg_succ B52 r B52_pos]
  have:ulp B52 r≤mg B52 r:=by
    by_cases hs:r < B52
    · rw [ulp_small hs,mg_small hs];omega
    · obtain ⟨s,t,ht,rfl⟩:=rung_split B52_pos (by omega:B52≤r)
      rw [ulp_eq B52 s t ht,mg_eq B52 s t ht]
      exact Nat.le_mul_of_pos_left _ (by have:=B52_pos;omega)
  omega
theorem div_side {a b q:Nat} (ha:W64 a) (hb:W64 b) (fa:rg a < 9218868437227405312) (fb:rg b < 9218868437227405312) (hb0:rg b ≠ 0) (hq:double.div a b=some q) (fq:rg q < 9218868437227405312) (hg:553942754166571008≤rg q) (ga:553942754166571008≤rg a) :
    ∃ t,double.fma (fneg q) b a=some t∧W64 t∧sgI t * sgI b=divS a b q:=by
  obtain ⟨q',r,h1,h2,h3,_,h4⟩:=div64x ha hb fa fb hb0
  rw [hq] at h1
  obtain rfl:=Option.some.inj h1
  have hr:r=rg q:=by omega
  subst hr
  have big:p2 1180≤mg B52 (rg q) * mg B52 (rg b):=by
    have h5:=h4.up
    have h6:=mg_big ga
    have h7:=mg_dbl (r:=rg q) (by omega)
    have h8:(mg B52 (rg q) + mg B52 (rg q + 1)) * mg B52 (rg b)≤3 * mg B52 (rg q) * mg B52 (rg b):=Nat.mul_le_mul_right _ (by omega)
    have h9:p2 174 * p2 1074≤mg B52 (rg a) * p2 1074:=Nat.mul_le_mul_right _ h6
    have h10:3 * p2 1180≤2 * (p2 174 * p2 1074):=by decide +kernel
    rw [Nat.mul_assoc 3] at h8
    omega
  have nw:=fneg_w h2
  have nr:=fneg_rg h2
  obtain ⟨t,h5,h6,h7⟩:=fma_sg nw hb ha (by rw [nr];exact fq) fb fa (dvd_val (by rw [nr];exact big))
  refine ⟨t,h5,h6,?_⟩
  rw [h7,fneg_val h2,Int.neg_mul,Int.add_comm,← Int.sub_eq_add_neg,sgI_val (by omega)];rfl
end Go.Proofs.YtalhpbilkhdfhaaDoor
namespace Go.Proofs.YtalhpbilkhdfhaaDoor
open Go Go.RowKit Nv GFl
open Go.Proofs.YtalhpbilkhdfhaaDoorW.PrintWords (Kd own_move own_ne own_lt own_base own_typed)
open XBn
set_option maxRecDepth 100000
set_option linter.unusedSimpArgs false
theorem C_one {w:World} {ad:Addr} {p:Int} (h:w.cell? ad=some (.int .u64 p)):Kd.C (Kd.int .u64) w (some ad) 1 [p]:=by
  refine ⟨rfl,by decide,fun _=>⟨ad,rfl,fun j q hq=>⟨[.int .u64 q],rfl,rfl,fun i u hu=>?_⟩⟩⟩
  have hj:j=0:=by have:=(List.getElem?_eq_some_iff.1 hq).1;simpa using this
  subst hj
  have hq:p=q:=by simpa using hq
  subst hq
  have hi:i=0:=by have:=(List.getElem?_eq_some_iff.1 hu).1;simpa using this
  subst hi
  have:u=.int .u64 p:=by simpa using hu.symm
  rw [this]
  have e:ad.add (0 * (Kd.int .u64).sz + 0)=ad:=by cases ad;simp [Addr.add]
  rw [e];exact h
theorem lbs_lt {m:Nat} (h0:m ≠ 0) (h:m < 18446744073709551616):lbs m=[(m:Int)]:=by
  rw [lbs_pos h0,Nat.div_eq_of_lt h,lbs_zero,Nat.mod_eq_of_lt h]
structure FDy (x:Nat) (g:Bool) (m:Nat) (y:Int):Prop where
  r:DR 1 g m y
  lo:-1074≤y
  hi:y≤1023
  l:m < 9007199254740992
  v:sg g m * ((p2 (y + 1074).toNat:Nat):Int)=val x
theorem fdy_z {x:Nat} (h:rg x=0):FDy x false 0 0:=⟨⟨fun _=>⟨rfl,rfl⟩,fun h=>absurd rfl h,by decide,by decide,by decide,by decide⟩,by decide,by decide,by decide,by rw [val_eq',h,mg_zero _ (by decide)];cases neg x <;> simp [sg]⟩
theorem fdy_s {x fr:Nat} {ex:Int} (h:IsSplit x fr ex) (h1:fr < 9007199254740992) (h2:ex≤1023):FDy x (neg x) fr ex:=by
  have ho:=h.odd
  have hl:=h.lo
  refine ⟨⟨fun e=>by omega,fun _=>ho,?_,by decide,by omega,by omega⟩,hl,h2,h1,?_⟩
  · have:(2:Nat) ^ (64 * 1)=18446744073709551616:=by decide
    omega
  · have h3:=h.eq
    rw [val_eq']
    show _=if neg x=true then -((mg B52 (rg x):Nat):Int) else ((mg B52 (rg x):Nat):Int)
    rw [← h3]
    unfold sg
    cases neg x
    · simp only [Bool.false_eq_true,if_false];push_cast;rfl
    · simp only [if_true,Int.neg_mul];push_cast;rfl
def OfPost (x:Nat) (w:World) (e:Ending) (w':World):Prop:=∃ d g m y,e=.returned (.tuple #[d,.int .i64 0])∧Dy w' d g m y∧FDy x g m y∧Below w.heap.size w w'
set_option maxHeartbeats 1000000 in
theorem yof_z (x:Nat) (hx:W64 x) (h0:rg x=0) (W:World):Calls Tryd.prog 41 #[.float .f64 x] W (OfPost x W):=by
  have SP:Hid (∀ w,Calls Tryd.prog 61 #[.float .f64 x] w fun e w'=>e=.returned (.tuple #[.agg #[.bool (neg x),.int .u64 0,.int .i64 0],.bool true])∧Below w.heap.size w w'):=Lib.hid (fun w=>split_z x hx h0 w)
  have V:=Lib.hid (fdy_z h0)
  obtain ⟨ng,hng⟩:∃ b,neg x=b:=⟨_,rfl⟩
  rw [hng] at SP
  clear hx h0 hng
  have B0:=Lib.hid (bl_alloc (Below.refl W.heap.size W) nilD)
  have K0:=Lib.hid (kb_new (w:=W) (o:=nilD) (Below.refl _ _))
  go_enter Tryd.func41,Tryd.ntmps41
  go_upto_region 2 with (first
    | (go_at_call 61;(with_reducible refine (SP.out _).mono ?_);rintro e w1 ⟨rfl,hb⟩;have B1:=Lib.hid (bl_then B0.out hb);have K1:=Lib.hid (kb_keep hb K0.out);clear hb))
  have B2:=Lib.hid (bl_alloc B1.out (.cells #[.bool ng,.int .u64 0,.int .i64 0] 84))
  have K2:=Lib.hid (kb_alloc (o':=.cells #[.bool ng,.int .u64 0,.int .i64 0] 84) K1.out)
  have N2:=Lib.hid (kb_new (w:=w1) (o:=.cells #[.bool ng,.int .u64 0,.int .i64 0] 84) (Below.refl _ _))
  have a1:=kb_cell N2.out (i:=1) rfl
  have d0:=kb_cell K2.out (i:=0) rfl
  have d1:=kb_cell K2.out (i:=1) rfl
  have d2:=kb_cell K2.out (i:=2) rfl
  have f0:=kb_frozen K2.out 0
  have f1:=kb_frozen K2.out 1
  have f2:=kb_frozen K2.out 2
  go_wp2
  have y0:=rw_setc K2.out 0 (.bool false)
  have y1:=rw_setc y0 1 (.slice none 0 0)
  have y2:=rw_setc y1 2 (.int .i64 0)
  have z0:=kb_cell y2 (i:=0) rfl
  have z1:=kb_cell y2 (i:=1) rfl
  have z2:=kb_cell y2 (i:=2) rfl
  refine bodyPost_ret (v:=.tuple #[.agg #[.bool false,.slice none 0 0,.int .i64 0],.int .i64 0]) (by simp [results,Tryd.results41,go_sem,z0,z1,z2]) rfl ?_
  exact ⟨_,_,_,_,rfl,⟨none,0,by rw [lbs_zero];rfl,by rw [lbs_zero];decide,by rw [lbs_zero];exact ⟨rfl,by decide,fun h=>absurd h (by decide)⟩⟩,V.out,bl_set (bl_set (bl_set B2.out _ (Nat.le_refl _)) _ (Nat.le_refl _)) _ (Nat.le_refl _)⟩
set_option maxHeartbeats 1000000 in
theorem yof_y (x:Nat) (hx:W64 x) (h0:0 < rg x) (hf:rg x < 9218868437227405312) (W:World) (hT:Tab W):Calls Tryd.prog 41 #[.float .f64 x] W (OfPost x W):=by
  have SP:Hid (∀ w,Below W.heap.size W w→Calls Tryd.prog 61 #[.float .f64 x] w (SplitPost x w)):=Lib.hid (fun w hb=>split_yes x hx h0 hf w (hT.below hb))
  clear hx h0 hf hT
  have B0:=Lib.hid (bl_alloc (Below.refl W.heap.size W) nilD)
  have K0:=Lib.hid (kb_new (w:=W) (o:=nilD) (Below.refl _ _))
  go_enter Tryd.func41,Tryd.ntmps41
  go_upto_region 2 with (first
    | (go_at_call 61;(with_reducible refine (SP.out _ B0.out).mono ?_);rintro e w1 ⟨fr,ex,rfl,hs,hfr,hex,hb⟩;have V:=Lib.hid (fdy_s hs hfr hex);have OD:=Lib.hid (And.intro hs.odd hfr);have B1:=Lib.hid (bl_then B0.out hb);have K1:=Lib.hid (kb_keep hb K0.out);clear hb hs hfr hex))
  obtain ⟨ng,hng⟩:∃ b,neg x=b:=⟨_,rfl⟩
  rw [hng] at V
  simp only [hng]
  clear hng
  have B2:=Lib.hid (bl_alloc B1.out (.cells #[.bool ng,.int .u64 (fr:Int),.int .i64 ex] 84))
  have K2:=Lib.hid (kb_alloc (o':=.cells #[.bool ng,.int .u64 (fr:Int),.int .i64 ex] 84) K1.out)
  have N2:=Lib.hid (kb_new (w:=w1) (o:=.cells #[.bool ng,.int .u64 (fr:Int),.int .i64 ex] 84) (Below.refl _ _))
  have a0:=kb_cell N2.out (i:=0) rfl
  have a1:=kb_cell N2.out (i:=1) rfl
  have a2:=kb_cell N2.out (i:=2) rfl
  have k1:((fr:Int) == 0)=false:=by rw [beq_eq_false_iff_ne];have:=OD.out.1;omega
  have E1:Hid (lbs fr=[(fr:Int)]):=Lib.hid (lbs_lt (by have:=OD.out.1;omega) (by have:=OD.out.2;omega))
  obtain ⟨F,hF⟩:∃ F:Int,(fr:Int)=F:=⟨_,rfl⟩
  have HF:=Lib.hid hF
  simp only [hF] at *
  clear hF
  go_upto_region 6 with (fail)
  obtain ⟨w2,hw2⟩:∃ w,w1.alloc (.cells #[.bool ng,.int .u64 F,.int .i64 ex] 84)=w:=⟨_,rfl⟩
  obtain ⟨b2,hb2⟩:∃ b,w1.heap.size=b:=⟨_,rfl⟩
  rw [hw2] at B2 K2 N2
  rw [hb2] at N2
  simp only [hw2,hb2] at *
  clear hw2 hb2
  have B3:=Lib.hid (bl_alloc B2.out (.cells #[.int .u64 F] 54))
  have K3:=Lib.hid (kb_alloc (o':=.cells #[.int .u64 F] 54) K2.out)
  have N3:=Lib.hid (kb_alloc (o':=.cells #[.int .u64 F] 54) N2.out)
  have M3:=Lib.hid (kb_new (w:=w2) (o:=.cells #[.int .u64 F] 54) (Below.refl _ _))
  have c0:=kb_cell N3.out (i:=0) rfl
  have c1:=kb_cell N3.out (i:=1) rfl
  have c2:=kb_cell N3.out (i:=2) rfl
  have d0:=kb_cell K3.out (i:=0) rfl
  have d1:=kb_cell K3.out (i:=1) rfl
  have d2:=kb_cell K3.out (i:=2) rfl
  have f0:=kb_frozen K3.out 0
  have f1:=kb_frozen K3.out 1
  have f2:=kb_frozen K3.out 2
  go_wp2
  have y0:=rw_setc K3.out 0 (.bool ng)
  have y1:=rw_setc y0 1 (.slice (some ⟨w2.heap.size,0,none⟩) 1 1)
  have y2:=rw_setc y1 2 (.int .i64 ex)
  have z0:=kb_cell y2 (i:=0) rfl
  have z1:=kb_cell y2 (i:=1) rfl
  have z2:=kb_cell y2 (i:=2) rfl
  refine bodyPost_ret (v:=.tuple #[.agg #[.bool ng,.slice (some ⟨w2.heap.size,0,none⟩) 1 1,.int .i64 ex],.int .i64 0]) (by simp [results,Tryd.results41,go_sem,z0,z1,z2]) rfl ?_
  have ne:w2.heap.size ≠ W.heap.size:=by have:=kb_lt K2.out;omega
  have m3:=(rw_far ne 2 (.int .i64 ex)).trans ((rw_far ne 1 (.slice (some ⟨w2.heap.size,0,none⟩) 1 1)).trans ((rw_far ne 0 (.bool ng)).trans M3.out))
  have hC:=C_one (kb_cell m3 (i:=0) rfl)
  exact ⟨_,_,_,_,rfl,⟨some ⟨w2.heap.size,0,none⟩,1,by rw [E1.out];rfl,by rw [E1.out];exact Nat.le_refl _,by rw [E1.out];exact hC⟩,V.out,bl_set (bl_set (bl_set B3.out _ (Nat.le_refl _)) _ (Nat.le_refl _)) _ (Nat.le_refl _)⟩
theorem yof_c (x:Nat) (hx:W64 x) (hf:rg x < 9218868437227405312) (W:World) (hT:Tab W):Calls Tryd.prog 41 #[.float .f64 x] W (OfPost x W):=by
  rcases Nat.eq_zero_or_pos (rg x) with h|h
  · exact yof_z x hx h W
  · exact yof_y x hx h hf W hT
end Go.Proofs.YtalhpbilkhdfhaaDoor
