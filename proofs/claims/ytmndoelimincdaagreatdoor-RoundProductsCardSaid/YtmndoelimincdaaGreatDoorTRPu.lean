import Derived.Test.YtmndoelimincdaaGreatDoorTRPt
import Derived.Test.YtmndoelimincdaaGreatDoorTRPl
import Derived.Test.YtmndoelimincdaaGreatDoorTRPk
import Derived.ProofKit
import Derived.Lib.LaidTab
import Derived.SevenTiedAt
import Derived.JoinedOf
import Derived.ChangeSame
import Derived.ChangeVars
namespace Go.Proofs.YtmndoelimincdaaGreatDoor
open Go Go.RowKit Nv GFl
open Go.Proofs.YtmndoelimincdaaGreatDoorW.PrintWords (Kd)
open XRf
set_option maxRecDepth 100000
set_option linter.unusedSimpArgs false
attribute [local go_sem] run_f64bits
theorem ld_set3 {w:World} {b n c:Nat} {v:Value} {A:Option Addr} {G:Bool} {z X:Int} (h:Ld w v z) (hb:w.heap[b]?=some nilN):Ld (((w.setCell ⟨b,0,none⟩ (.bool G)).setCell ⟨b,1,none⟩ (.slice A n c)).setCell ⟨b,2,none⟩ (.int .i64 X)) v z:=by
  have y0:=hp_set hb 0 (.bool G)
  have y1:=hp_set y0 1 (.slice A n c)
  exact ((h.setc (kb_cell hb (i:=0) rfl) (fun z h=>by cases h) _).setc (kb_cell y0 (i:=1) rfl) (fun z h=>by cases h) _).setc (kb_cell y1 (i:=2) rfl) (fun z h=>by cases h) _
theorem val_nz (x:Nat):val x=nz (neg x) ((mg B52 (rg x):Nat):Int):=by
  rw [val_eq']
  unfold nz
  cases neg x <;> rfl
set_option maxHeartbeats 2000000 in
theorem float0_s {W:World} (x:Nat) (hx:W64 x) (hf:rg x < 9218868437227405312):Calls Tryz.prog 74 #[.float .f64 x] W (ZPost 1074 1023 (val x) W):=by
  have hl:=hx.lt
  obtain ⟨e,he⟩:∃ e,rg x / 4503599627370496=e:=⟨_,rfl⟩
  obtain ⟨f,hfe⟩:∃ f,rg x % 4503599627370496=f:=⟨_,rfl⟩
  have hr:=rg_eq x
  have hn:=neg_eq x
  have eb:bits BinOp.and IntKind.u64 ((x:Int) / 4503599627370496) 2047=(e:Int):=by
    have:=u64_low11 (x / 4503599627370496) (by omega)
    rw [show ((x / 4503599627370496:Nat):Int)=(x:Int) / 4503599627370496 by omega] at this
    rw [this,← he,hr]
    congr 1
    omega
  have ef:(x:Int) % 4503599627370496=(f:Int):=by omega
  have en:((x:Int) / 9223372036854775808 == 1)=neg x:=by
    rw [hn,Bool.eq_iff_iff,beq_iff_eq,decide_eq_true_eq];omega
  have ew:wrap64 (e:Int)=(e:Int):=by unfold wrap64;omega
  have e46:e≤2046:=by omega
  have f52:f < 4503599627370496:=by omega
  have hv:if e=0 then nz (neg x) (f:Int) * 2 ^ (-1074 + ((1074:Nat):Int)).toNat=val x else nz (neg x) ((f + 4503599627370496:Nat):Int) * 2 ^ ((e:Int) - 1075 + ((1074:Nat):Int)).toNat=val x:=by
    rw [val_nz]
    by_cases h0:e=0
    · rw [if_pos h0,mg_small (show rg x < B52 by unfold B52;omega),show rg x=f by omega,show (-1074 + ((1074:Nat):Int)).toNat=0 by decide,Int.pow_zero,Int.mul_one]
    · rw [if_neg h0]
      have h1:rg x=(e - 1 + 1) * B52 + f:=by unfold B52;omega
      rw [h1,mg_eq B52 (e - 1) f f52,show ((e:Int) - 1075 + ((1074:Nat):Int)).toNat=e - 1 by omega,Int.natCast_mul,Int.natCast_pow,nz_mulr]
      congr 2
      have:B52=4503599627370496:=rfl
      rw [this,Nat.add_comm]
  have HV:=Lib.hid hv
  have B0:=Lib.hid (bl_alloc (Below.refl W.heap.size W) nilN)
  have K0:=Lib.hid (kb_new (w:=W) (o:=nilN) (Below.refl _ _))
  obtain ⟨g,hg⟩:∃ g,neg x=g:=⟨_,rfl⟩
  rw [hg] at en HV
  by_cases h0:e=0
  · have NO:Hid (∀ w,Calls Tryz.prog 105 #[.int .u64 (f:Int)] w (LPost (f:Int) w)):=Lib.hid (fun w=>natOf_d f (by omega) w)
    have NV:Hid (∀ {w A m c},Ld w (.slice A m c) (f:Int)→NS w (.agg #[.bool g,.slice A m c,.int .i64 (-1074)]) 1074 1023 (val x)):=Lib.hid (fun h=>⟨g,_,-1074,⟨_,rfl,h⟩,by omega,by omega,by omega,by have:=HV.out;rwa [if_pos h0] at this⟩)
    have k0:((e:Int) == 0)=true:=by rw [beq_iff_eq];omega
    clear hl he hfe hr hn hv hx hf hg e46 f52 HV h0
    go_enter Tryz.func74,Tryz.ntmps74
    go_wp2_with (first
      | (go_at_call 105;(with_reducible refine (NO.out _).mono ?_);rintro e' w1 ⟨v,rfl,hv,hb⟩;obtain ⟨A,m,c,rfl⟩:=hv.ld.slice;have HL:=Lib.hid hv;have B1:=Lib.hid (bl_then B0.out hb);have K1:=Lib.hid (kb_keep hb K0.out);have d0:=kb_cell K1.out (i:=0) rfl;have d1:=kb_cell K1.out (i:=1) rfl;have d2:=kb_cell K1.out (i:=2) rfl;have f0:=kb_frozen K1.out 0;have f1:=kb_frozen K1.out 1;have f2:=kb_frozen K1.out 2;clear hv hb))
    have y2:=hp_set (hp_set (hp_set K1.out 0 (.bool g)) 1 (.slice A m c)) 2 (.int .i64 (-1074))
    have z0:=kb_cell y2 (i:=0) rfl
    have z1:=kb_cell y2 (i:=1) rfl
    have z2:=kb_cell y2 (i:=2) rfl
    refine bodyPost_ret (v:=.agg #[.bool g,.slice A m c,.int .i64 (-1074)]) (by simp [results,Tryz.results74,go_sem,z0,z1,z2]) rfl ?_
    exact ⟨_,rfl,NV.out (ld_set3 HL.out.ld K1.out),bl_set (bl_set (bl_set B1.out _ (by simp)) _ (by simp)) _ (by simp)⟩
  · have NO:Hid (∀ w,Calls Tryz.prog 105 #[.int .u64 ((f:Int) + 4503599627370496)] w (LPost ((f + 4503599627370496:Nat):Int) w)):=Lib.hid (fun w=>by have:=natOf_d (f + 4503599627370496) (by omega) w;rwa [show ((f + 4503599627370496:Nat):Int)=(f:Int) + 4503599627370496 by omega] at this ⊢)
    have NV:Hid (∀ {w A m c},Ld w (.slice A m c) ((f + 4503599627370496:Nat):Int)→NS w (.agg #[.bool g,.slice A m c,.int .i64 ((e:Int) - 1075)]) 1074 1023 (val x)):=Lib.hid (fun h=>⟨g,_,(e:Int) - 1075,⟨_,rfl,h⟩,by omega,by omega,by omega,by have:=HV.out;rwa [if_neg h0] at this⟩)
    have k0:((e:Int) == 0)=false:=by rw [beq_eq_false_iff_ne];omega
    have k1:IntKind.u64.wrap ((f:Int) + 4503599627370496)=(f:Int) + 4503599627370496:=by rw [IntKind.wrap_u64];omega
    have k2:wrap64 ((e:Int) - 1075)=(e:Int) - 1075:=by unfold wrap64;omega
    have k3:IntKind.i64.wrap ((e:Int) - 1075)=(e:Int) - 1075:=by clear k2;rw [IntKind.wrap_i64];omega
    clear hl he hfe hr hn hv hx hf hg e46 f52 HV h0
    go_enter Tryz.func74,Tryz.ntmps74
    go_wp2_with (first
      | (go_at_call 105;(with_reducible refine (NO.out _).mono ?_);rintro e' w1 ⟨v,rfl,hv,hb⟩;obtain ⟨A,m,c,rfl⟩:=hv.ld.slice;have HL:=Lib.hid hv;have B1:=Lib.hid (bl_then B0.out hb);have K1:=Lib.hid (kb_keep hb K0.out);have d0:=kb_cell K1.out (i:=0) rfl;have d1:=kb_cell K1.out (i:=1) rfl;have d2:=kb_cell K1.out (i:=2) rfl;have f0:=kb_frozen K1.out 0;have f1:=kb_frozen K1.out 1;have f2:=kb_frozen K1.out 2;clear hv hb))
    have y2:=hp_set (hp_set (hp_set K1.out 0 (.bool g)) 1 (.slice A m c)) 2 (.int .i64 ((e:Int) - 1075))
    have z0:=kb_cell y2 (i:=0) rfl
    have z1:=kb_cell y2 (i:=1) rfl
    have z2:=kb_cell y2 (i:=2) rfl
    refine bodyPost_ret (v:=.agg #[.bool g,.slice A m c,.int .i64 ((e:Int) - 1075)]) (by simp [results,Tryz.results74,go_sem,z0,z1,z2]) rfl ?_
    exact ⟨_,rfl,NV.out (ld_set3 HL.out.ld K1.out),bl_set (bl_set (bl_set B1.out _ (by simp)) _ (by simp)) _ (by simp)⟩
set_option maxHeartbeats 1000000 in
theorem exact_s {W:World} (x:Nat) (hx:W64 x) (hf:rg x < 9218868437227405312):Calls Tryz.prog 44 #[.float .f64 x] W (ZPost 1074 1023 (val x) W):=by
  have FC:Hid (∀ w,Calls Tryz.prog 74 #[.float .f64 x] w (ZPost 1074 1023 (val x) w)):=Lib.hid (fun w=>float0_s x hx hf)
  clear hx hf
  have B0:=Lib.hid (bl_alloc (Below.refl W.heap.size W) nilN)
  have K0:=Lib.hid (kb_new (w:=W) (o:=nilN) (Below.refl _ _))
  go_enter Tryz.func44,Tryz.ntmps44
  go_wp2_with (first
    | (go_at_call 74;(with_reducible refine (FC.out _).mono ?_);rintro e' w1 ⟨v,rfl,hv,hb⟩;obtain ⟨g,A,m,c,y,rfl⟩:=hv.agg;have HL:=Lib.hid hv;have B1:=Lib.hid (bl_then B0.out hb);have K1:=Lib.hid (kb_keep hb K0.out);have d0:=kb_cell K1.out (i:=0) rfl;have d1:=kb_cell K1.out (i:=1) rfl;have d2:=kb_cell K1.out (i:=2) rfl;have f0:=kb_frozen K1.out 0;have f1:=kb_frozen K1.out 1;have f2:=kb_frozen K1.out 2;clear hv hb))
  have y2:=hp_set (hp_set (hp_set K1.out 0 (.bool g)) 1 (.slice A m c)) 2 (.int .i64 y)
  have z0:=kb_cell y2 (i:=0) rfl
  have z1:=kb_cell y2 (i:=1) rfl
  have z2:=kb_cell y2 (i:=2) rfl
  refine bodyPost_ret (v:=.agg #[.bool g,.slice A m c,.int .i64 y]) (by simp [results,Tryz.results44,go_sem,z0,z1,z2]) rfl ?_
  exact ⟨_,rfl,HL.out.set3 K1.out (fun z h=>by cases h),bl_set (bl_set (bl_set B1.out _ (by simp)) _ (by simp)) _ (by simp)⟩
end Go.Proofs.YtmndoelimincdaaGreatDoor
namespace Go.Proofs.YtmndoelimincdaaGreatDoor
open Go Go.RowKit GFl Ieee Nv
set_option maxRecDepth 100000
set_option linter.unusedSimpArgs false
attribute [local go_sem] run_f64bits run_f64frombits run_neg_f64
theorem g_sideZ_c (x:Nat) (off m:Int) (hx:W64 x) (h0:rg x=0) (hz:(neg x=false→0≤off)∧(neg x=true→off≤0)) (w:World) :
    Calls Tryz.prog 41 #[.float .f64 x,.int .i64 off,.int .i8 m] w fun e w'=>e=.returned (.float .f64 (settleW x off (wayI m)))∧w=w':=by
  have sg:∀ w,Calls Tryz.prog 48 #[.float .f64 x] w fun e w'=>e=.returned (.bool (neg x))∧w=w':=fun w=>(signbit_c x hx w).mono fun _ _ h=>⟨h.1,h.2.symm⟩
  have UP:=Lib.hid (fun w=>g_up_c x hx (by omega) w)
  have DN:=Lib.hid (fun w=>g_down_c x hx (by omega) w)
  have n0:(FloatKind.f64.format.order x 0 != some .eq)=false:=by rw [nez hx (by omega),decide_eq_true h0];rfl
  have RS:Hid (settleW x off (wayI m)=if (off < 0∧modeW x (wayI m)=1) ∨ (0 < off∧modeW x (wayI m)=2) then stepW x (decide (0 < off)) else x):=Lib.hid (by unfold settleW;rw [if_neg (by omega)])
  have MW:Hid (modeW x (wayI m)=if m=3 then (if neg x then 2 else 1) else wayI m):=Lib.hid (by
    unfold modeW
    have:wayI m=3 ↔ m=3:=by unfold wayI;split <;> omega
    simp only [this])
  have WY:Hid (∀ i,(i=1 ∨ i=2)→(wayI m=i ↔ m=i)):=Lib.hid (fun i hi=>by unfold wayI;split <;> omega)
  obtain ⟨ns,hn⟩:∃ b,neg x=b:=⟨_,rfl⟩
  rw [hn] at sg MW hz
  have SG:=Lib.hid sg
  clear sg hx hn h0
  have key:∀ v:Nat,(v=if (off < 0∧m=1) then stepW x false else if (0 < off∧m=2) then stepW x true else x)→v=settleW x off (wayI m):=fun v hv=>by
    rw [hv,RS.out,MW.out]
    by_cases m3:m=3
    · rw [if_neg (by omega),if_neg (by omega),if_pos m3]
      cases ns
      · have:=hz.1 rfl
        rw [if_neg];simp only [Bool.false_eq_true,if_false];omega
      · have:=hz.2 rfl
        rw [if_neg];simp only [if_true];omega
    · rw [if_neg m3]
      have h1:=WY.out 1 (Or.inl rfl)
      have h2:=WY.out 2 (Or.inr rfl)
      by_cases c1:off < 0∧m=1
      · rw [if_pos c1,if_pos (Or.inl ⟨c1.1,h1.2 c1.2⟩),decide_eq_false (by omega)]
      · rw [if_neg c1]
        by_cases c2:0 < off∧m=2
        · rw [if_pos c2,if_pos (Or.inr ⟨c2.1,h2.2 c2.2⟩),decide_eq_true c2.1]
        · rw [if_neg c2,if_neg (by rw [h1,h2];omega)]
  have k1:∃ b,decide (off < 0)=b:=⟨_,rfl⟩
  have k2:∃ b,decide (0 < off)=b:=⟨_,rfl⟩
  have j1:∃ b,(m == 1)=b:=⟨_,rfl⟩
  have j2:∃ b,(m == 2)=b:=⟨_,rfl⟩
  have j3:∃ b,(m == 3)=b:=⟨_,rfl⟩
  obtain ⟨t1,k1⟩:=k1
  obtain ⟨t2,k2⟩:=k2
  obtain ⟨b1,j1⟩:=j1
  obtain ⟨b2,j2⟩:=j2
  obtain ⟨b3,j3⟩:=j3
  have KEY:Hid (∀ v:Nat,v=(if (t1 && b1)=true then stepW x false else if (t2 && b2)=true then stepW x true else x)→v=settleW x off (wayI m)):=Lib.hid (fun v hv=>key v (by
    rw [hv,← k1,← k2,← j1,← j2]
    simp only [Bool.and_eq_true,decide_eq_true_eq,beq_iff_eq]))
  clear key RS MW WY hz
  cases t1 <;> cases t2 <;> cases b1 <;> cases b2 <;> cases b3 <;> cases ns
  all_goals
    go_enter Tryz.func41,Tryz.ntmps41
    go_wp2_with (first|(go_at_call 48;refine (SG.out _).mono ?_;rintro e w' ⟨rfl,rfl⟩)|(go_at_call 71;refine (UP.out _).mono ?_;rintro e w' ⟨rfl,rfl⟩)|(go_at_call 70;refine (DN.out _).mono ?_;rintro e w' ⟨rfl,rfl⟩))
    go_ret
    exact ⟨ret_float (KEY.out _ rfl),rfl⟩
theorem g_sideA_c (x:Nat) (off m:Int) (hx:W64 x) (hf:rg x < 9218868437227405312) (hz:rg x=0→(neg x=false→0≤off)∧(neg x=true→off≤0)) (w:World) :
    Calls Tryz.prog 41 #[.float .f64 x,.int .i64 off,.int .i8 m] w fun e w'=>e=.returned (.float .f64 (settleW x off (wayI m)))∧w=w':=by
  by_cases h0:rg x=0
  · exact g_sideZ_c x off m hx h0 (hz h0) w
  · exact g_sideX_c x off m hx hf h0 w
def midB (x:Nat):Bool:=decide (553942754166571008≤rg x) && decide (rg x≤8660422083433463808)
theorem g_mid_c (x:Nat) (hx:W64 x) (hf:rg x≤9218868437227405312) (w:World):Calls Tryz.prog 40 #[.float .f64 x] w fun e w'=>e=.returned (.bool (midB x))∧w=w':=by
  have ab:=fun w=>abs_c x hx w
  have AB:=Lib.hid ab
  have k1:(FloatKind.f64.format.order (fabs x) 553942754166571008 == some .gt || FloatKind.f64.format.order (fabs x) 553942754166571008 == some .eq)=decide (553942754166571008≤rg x):=by
    rw [t_ge (fabs_w x) (w_const (by decide)),fabs_isn,fabs_plc,isn_eq]
    have e1:isn 553942754166571008=false:=by decide
    have e2:plc 553942754166571008=553942754166571008:=by decide
    rw [e1,e2,decide_eq_false (show ¬ 9218868437227405312 < rg x by omega),Bool.eq_iff_iff];simp;omega
  have k2:(FloatKind.f64.format.order (fabs x) 8660422083433463808 == some .lt || FloatKind.f64.format.order (fabs x) 8660422083433463808 == some .eq)=decide (rg x≤8660422083433463808):=by
    rw [t_le (fabs_w x) (w_const (by decide)),fabs_isn,fabs_plc,isn_eq]
    have e1:isn 8660422083433463808=false:=by decide
    have e2:plc 8660422083433463808=8660422083433463808:=by decide
    rw [e1,e2,decide_eq_false (show ¬ 9218868437227405312 < rg x by omega),Bool.eq_iff_iff];simp;omega
  unfold midB
  obtain ⟨b1,h1⟩:∃ b,decide (553942754166571008≤rg x)=b:=⟨_,rfl⟩
  obtain ⟨b2,h2⟩:∃ b,decide (rg x≤8660422083433463808)=b:=⟨_,rfl⟩
  rw [h1] at k1 ⊢
  rw [h2] at k2 ⊢
  clear h1 h2 ab hx hf
  cases b1 <;> cases b2
  all_goals
    go_enter Tryz.func40,Tryz.ntmps40
    go_wp2_with (first|(go_at_call 8;refine (AB.out _).mono ?_;rintro e w' ⟨rfl,rfl⟩))
    go_ret
    exact ⟨rfl,rfl⟩
theorem mid_rg {x:Nat} (h:midB x=true):553942754166571008≤rg x:=by
  unfold midB at h
  rw [Bool.and_eq_true,decide_eq_true_eq,decide_eq_true_eq] at h
  exact h.1
theorem val_z {p:Nat} (h:rg p=0):val p=0:=by rw [val_eq',h,mg_zero _ (by decide)];cases neg p <;> simp
theorem val_sg (x:Nat):(neg x=false→0≤val x)∧(neg x=true→val x≤0):=by
  rw [val_eq']
  constructor <;> intro h <;> rw [h] <;> simp
theorem prod_sg {a b:Nat}:((neg a ^^ neg b)=false→0≤val a * val b)∧((neg a ^^ neg b)=true→val a * val b≤0):=by
  have h1:=val_sg a
  have h2:=val_sg b
  cases ha:neg a <;> cases hb:neg b <;> rw [ha] at h1 <;> rw [hb] at h2
  · exact ⟨fun _=>Int.mul_nonneg (h1.1 rfl) (h2.1 rfl),fun h=>by cases h⟩
  · exact ⟨fun h=>(by cases h),fun _=>Int.mul_nonpos_of_nonneg_of_nonpos (h1.1 rfl) (h2.2 rfl)⟩
  · exact ⟨fun h=>(by cases h),fun _=>Int.mul_nonpos_of_nonpos_of_nonneg (h1.2 rfl) (h2.1 rfl)⟩
  · exact ⟨fun _=>Int.mul_nonneg_of_nonpos_of_nonpos (h1.2 rfl) (h2.2 rfl),fun h=>by cases h⟩
theorem sign_mono {v:Int}:(0≤v→0≤v.sign)∧(v≤0→v.sign≤0):=by
  rcases Int.lt_trichotomy v 0 with h|h|h
  · rw [Int.sign_eq_neg_one_of_neg h];omega
  · subst h;simp
  · rw [Int.sign_eq_one_of_pos h];omega
theorem mulS_z {a b p:Nat} (hn:neg p=(neg a ^^ neg b)) (hz:rg p=0):(neg p=false→0≤mulS a b p)∧(neg p=true→mulS a b p≤0):=by
  unfold mulS
  rw [val_z hz,Int.zero_mul,Int.sub_zero,hn]
  exact ⟨fun h=>sign_mono.1 (prod_sg.1 h),fun h=>sign_mono.2 (prod_sg.2 h)⟩
theorem divS_z {a b p:Nat} (hn:neg p=(neg a ^^ neg b)) (hz:rg p=0):(neg p=false→0≤divS a b p)∧(neg p=true→divS a b p≤0):=by
  unfold divS
  rw [val_z hz,Int.zero_mul,Int.sub_zero,hn,← Int.sign_mul]
  have hp:(0:Int)≤((p2 1074:Nat):Int):=Int.natCast_nonneg _
  have e:val a * ((p2 1074:Nat):Int) * val b=val a * val b * ((p2 1074:Nat):Int):=by ac_rfl
  rw [e]
  exact ⟨fun h=>sign_mono.1 (Int.mul_nonneg (prod_sg.1 h) hp),fun h=>sign_mono.2 (Int.mul_nonpos_of_nonpos_of_nonneg (prod_sg.2 h) hp)⟩
theorem ls_200:((p2 10000:Nat):Int)≤ls 200:=by decide +kernel
theorem sz_p2 {z:Int} (h:z.natAbs < p2 10000):Sz z:=by
  unfold Sz
  have h1:=ls_200
  have h2:=ls_le (show 200≤1000000 by decide)
  generalize ls 200=u at *
  generalize ls 1000000=v at *
  generalize p2 10000=t at *
  omega
theorem val_lt {x:Nat} (h:rg x < 9218868437227405312):(val x).natAbs < p2 2098:=by
  rw [val_natAbs]
  have h1:mg B52 (rg x) < mg B52 9218868437227405312:=(mg_lt_iff B52_pos).2 h
  rw [mgINF] at h1
  have h2:B52 * p2 2046=p2 2098:=by
    have:B52=p2 52:=by decide +kernel
    rw [this,← p2_add]
  rwa [h2] at h1
theorem p2_lt3 {a:Nat} (h:a < 10000):p2 a < p2 10000:=p2_lt' h
theorem sz_val {x:Nat} (h:rg x < 9218868437227405312):Sz (val x):=sz_p2 (Nat.lt_trans (val_lt h) (p2_lt3 (by decide)))
theorem sz_prod {x y:Nat} (h:rg x < 9218868437227405312) (h':rg y < 9218868437227405312):(val x * val y).natAbs < p2 4196:=by
  rw [Int.natAbs_mul,show (4196:Nat)=2098 + 2098 from rfl,p2_add]
  exact Nat.mul_lt_mul_of_lt_of_lt (val_lt h) (val_lt h')
theorem sz_sc {x:Nat} (h:rg x < 9218868437227405312):(val x * ((p2 1074:Nat):Int)).natAbs < p2 4196:=by
  rw [Int.natAbs_mul,Int.natAbs_natCast]
  have h1:(val x).natAbs * p2 1074 < p2 2098 * p2 1074:=Nat.mul_lt_mul_of_pos_right (val_lt h) (p2_pos _)
  rw [← p2_add] at h1
  exact Nat.lt_trans h1 (p2_lt' (by decide))
theorem sz_diff {u v:Int} (h:u.natAbs < p2 4196) (h':v.natAbs < p2 4196):Sz (u + -v):=by
  refine sz_p2 (Nat.lt_of_lt_of_le (m:=p2 4197) ?_ (Nat.le_of_lt (p2_lt' (by decide))))
  rw [show (4197:Nat)=4196 + 1 from rfl,p2_suc]
  omega
theorem sz_of {u:Int} (h:u.natAbs < p2 4196):Sz u:=sz_p2 (Nat.lt_trans h (p2_lt' (by decide)))
theorem NS.up {w:World} {v:Value} {k:Nat} {E z:Int} (h:NS w v k E z) (j:Nat):NS w v (k + j) E (z * ((p2 j:Nat):Int)):=by
  obtain ⟨g,m,x,h1,h2,h3,h4,h5⟩:=h
  refine ⟨g,m,x,h1,h2,by push_cast;omega,h4,?_⟩
  rw [show (x + ((k + j:Nat):Int)).toNat=(x + k).toNat + j by omega,Int.pow_add,← Int.mul_assoc,h5,p2_def,Int.natCast_pow];rfl
theorem NS.wide {w:World} {v:Value} {k:Nat} {E E' z:Int} (h:NS w v k E z) (hE:E≤E'):NS w v k E' z:=by
  obtain ⟨g,m,x,h1,h2,h3,h4,h5⟩:=h
  exact ⟨g,m,x,h1,h2,h3,by omega,h5⟩
set_option maxHeartbeats 8000000 in
theorem gmul_c (a b:Nat) (m:Int) (ha:W64 a) (hb:W64 b) (w:World) :
    Calls Tryz.prog 20 #[.float .f64 a,.float .f64 b,.int .i8 m] w fun e w'=>∃ r,e=.returned (.float .f64 r)∧Fo (mulR a b m) r∧Below w.heap.size w w':=by
  have FA:=Lib.hid (fun w=>g_fin_c a ha w)
  have FB:=Lib.hid (fun w=>g_fin_c b hb w)
  by_cases hf:(fin a && fin b)=true
  · have fa:fin a=true:=by cases h:fin a <;> rw [h] at hf <;> simp at hf ⊢
    have fb:fin b=true:=by cases h:fin b <;> rw [h,fa] at hf <;> simp at hf ⊢
    have ra:=fin_r fa
    have rb:=fin_r fb
    rw [fa] at FA
    rw [fb] at FB
    clear hf
    by_cases za:rg a=0
    · have e0:(FloatKind.f64.format.order a 0 == some .eq)=true:=by rw [eqz ha (by omega),decide_eq_true za]
      have AR:=Lib.hid (mulR_no (m:=m) (okB_a (b:=b) za))
      clear ha hb fa fb ra rb za
      go_enter Tryz.func20,Tryz.ntmps20
      go_wp2_with (first|(refine wp_arith .f64 a b rfl rfl rfl ?_;intro r n hr;have HR:=Lib.hid (fo_of hr (fun y hy=>(mul_opt hy).1));clear hr)|(go_at_call 39;(with_reducible (first|refine (FA.out _).mono ?_|refine (FB.out _).mono ?_));rintro e w' ⟨rfl,n,rfl⟩))
      go_ret
      exact ⟨_,rfl,by rw [AR.out];exact HR.out,by repeat' (first|(with_reducible exact Below.refl _ _)|(with_reducible refine bl_alloc ?_ _)|(with_reducible refine bl_drewN ?_ _)|(with_reducible refine bl_drew ?_)|(with_reducible refine bl_set ?_ _ (by simp)))⟩
    · have e0:(FloatKind.f64.format.order a 0 == some .eq)=false:=by rw [eqz ha (by omega),decide_eq_false za]
      by_cases zb:rg b=0
      · have e1:(FloatKind.f64.format.order b 0 == some .eq)=true:=by rw [eqz hb (by omega),decide_eq_true zb]
        have AR:=Lib.hid (mulR_no (m:=m) (okB_b (a:=a) zb))
        clear ha hb fa fb ra rb za zb
        go_enter Tryz.func20,Tryz.ntmps20
        go_wp2_with (first|(refine wp_arith .f64 a b rfl rfl rfl ?_;intro r n hr;have HR:=Lib.hid (fo_of hr (fun y hy=>(mul_opt hy).1));clear hr)|(go_at_call 39;(with_reducible (first|refine (FA.out _).mono ?_|refine (FB.out _).mono ?_));rintro e w' ⟨rfl,n,rfl⟩))
        go_ret
        exact ⟨_,rfl,by rw [AR.out];exact HR.out,by repeat' (first|(with_reducible exact Below.refl _ _)|(with_reducible refine bl_alloc ?_ _)|(with_reducible refine bl_drewN ?_ _)|(with_reducible refine bl_drew ?_)|(with_reducible refine bl_set ?_ _ (by simp)))⟩
      · have e1:(FloatKind.f64.format.order b 0 == some .eq)=false:=by rw [eqz hb (by omega),decide_eq_false zb]
        obtain ⟨p,_,hp,pw,_,pn,_⟩:=mul64x ha hb ra rb
        have pr:=(mul_opt hp).2
        have AR:=Lib.hid (mulR_ok (m:=m) (okB_t fa fb za zb) hp)
        have AW:Hid (W64 (settleW p (mulS a b p) (wayI m))):=Lib.hid (settle_w pw pr)
        have d0:∀ (t':TypeId) w,(binOp .mul t' (.float .f64 a) (.float .f64 b)).run Tryz.prog w=.ok (.float .f64 p) w:=fun t' w=>run_float_arith w .mul t' .f64 a b p hp
        have FS:=Lib.hid (fun w=>g_fin_c p pw w)
        by_cases pi:rg p=9218868437227405312
        · rw [fin_f (x:=p) (by omega)] at FS
          rw [settle_inf pi] at AR AW
          have GC:=Lib.hid (fun w=>g_great_c p m pw pi w)
          clear pi pw pr pn hp za zb ra rb fa fb ha hb
          go_enter Tryz.func20,Tryz.ntmps20
          go_wp2_with (first|(go_at_call 39;(with_reducible (first|refine (FA.out _).mono ?_|refine (FB.out _).mono ?_|refine (FS.out _).mono ?_));rintro e w' ⟨rfl,n,rfl⟩)|(go_at_call 51;refine (GC.out _).mono ?_;rintro e w' ⟨rfl,rfl⟩))
          go_ret
          exact ⟨_,rfl,Fo.mk AR.out AW.out,by repeat' (first|(with_reducible exact Below.refl _ _)|(with_reducible refine bl_alloc ?_ _)|(with_reducible refine bl_drewN ?_ _)|(with_reducible refine bl_drew ?_)|(with_reducible refine bl_set ?_ _ (by simp)))⟩
        · have rp:rg p < 9218868437227405312:=by omega
          rw [fin_t rp] at FS
          have SC:Hid (∀ w,Calls Tryz.prog 41 #[.float .f64 p,.int .i64 (mulS a b p),.int .i8 m] w fun e w'=>e=.returned (.float .f64 (settleW p (mulS a b p) (wayI m)))∧w=w'):=Lib.hid (fun w=>g_sideA_c p (mulS a b p) m pw rp (fun h=>mulS_z pn h) w)
          have MP:=Lib.hid (fun w=>g_mid_c p pw (by omega) w)
          by_cases hm:midB p=true
          · rw [hm] at MP
            obtain ⟨t,ht,tw,ts⟩:=mul_side ha hb ra rb hp rp (mid_rg hm)
            have D:=run_fma64 ht
            have S1:=Lib.hid (fun w=>g_sign_c t tw w)
            rw [ts] at S1
            obtain ⟨off,ho⟩:∃ o,mulS a b p=o:=⟨_,rfl⟩
            rw [ho] at AR AW S1 SC
            clear ts ho hm ht tw pi pw pr pn rp hp za zb ra rb fa fb ha hb
            go_enter Tryz.func20,Tryz.ntmps20
            go_wp2_with (first|(go_at_call 39;(with_reducible (first|refine (FA.out _).mono ?_|refine (FB.out _).mono ?_|refine (FS.out _).mono ?_));rintro e w' ⟨rfl,n,rfl⟩)|(go_at_call 40;refine (MP.out _).mono ?_;rintro e w' ⟨rfl,rfl⟩)|(go_at_call 42;refine (S1.out _).mono ?_;rintro e w' ⟨rfl,rfl⟩)|(go_at_call 41;refine (SC.out _).mono ?_;rintro e w' ⟨rfl,rfl⟩))
            go_ret
            exact ⟨_,rfl,Fo.mk AR.out AW.out,by repeat' (first|(with_reducible exact Below.refl _ _)|(with_reducible refine bl_alloc ?_ _)|(with_reducible refine bl_drewN ?_ _)|(with_reducible refine bl_drew ?_)|(with_reducible refine bl_set ?_ _ (by simp)))⟩
          · have hm:midB p=false:=by simpa using hm
            rw [hm] at MP
            have EA:Hid (∀ w,Calls Tryz.prog 44 #[.float .f64 a] w (ZPost 1074 1023 (val a) w)):=Lib.hid (fun w=>exact_s a ha ra)
            have EB:Hid (∀ w,Calls Tryz.prog 44 #[.float .f64 b] w (ZPost 1074 1023 (val b) w)):=Lib.hid (fun w=>exact_s b hb rb)
            have EP:Hid (∀ w,Calls Tryz.prog 44 #[.float .f64 p] w (ZPost 1074 1023 (val p) w)):=Lib.hid (fun w=>exact_s p pw rp)
            have TM:Hid (∀ w u v,NS w u 1074 1023 (val a)→NS w v 1074 1023 (val b)→Calls Tryz.prog 45 #[u,v] w (ZPost 2148 2046 (val a * val b) w)):=Lib.hid (fun w u v h1 h2=>times_s h1 h2 (sz_val ra) (sz_val rb) (by decide) (by decide) (by decide) (by decide))
            have CM:Hid (∀ w u v,NS w u 2148 2046 (val a * val b)→NS w v 1074 1023 (val p)→Calls Tryz.prog 43 #[u,v] w fun e w'=>e=.returned (.int .i64 (mulS a b p))∧Below w.heap.size w w'):=Lib.hid (fun w u v h1 h2=>(compare_s h1 ((h2.up 1074).wide (by decide)) (sz_of (sz_prod ra rb)) (sz_of (sz_sc rp)) (sz_diff (sz_prod ra rb) (sz_sc rp)) (by decide) (by decide)).mono fun _ _ h=>⟨by rw [h.1,cmpZ_sign];rfl,h.2⟩)
            obtain ⟨off,ho⟩:∃ o,mulS a b p=o:=⟨_,rfl⟩
            rw [ho] at AR AW CM SC
            clear ho hm pi pw pr pn rp hp za zb ra rb fa fb ha hb
            have B0:=Lib.hid (Below.refl w.heap.size w)
            go_enter Tryz.func20,Tryz.ntmps20
            go_wp2_with (first
              | (go_at_call 39;(with_reducible (first|refine (FA.out _).mono ?_|refine (FB.out _).mono ?_|refine (FS.out _).mono ?_));rintro e w' ⟨rfl,n,rfl⟩)
              | (go_at_call 40;refine (MP.out _).mono ?_;rintro e w' ⟨rfl,rfl⟩)
              | (go_at_call 44;(with_reducible refine (EA.out _).mono ?_);rintro e w1 ⟨uA,rfl,hu,hb⟩;have UA:=Lib.hid hu;have B0:=Lib.hid (bl_then (show Below w.heap.size w _ by first|exact B0.out|exact bl_drewN B0.out _|exact bl_drewN (bl_drewN B0.out _) _|exact bl_drewN (bl_drewN (bl_drewN B0.out _) _) _) hb);clear hu hb)
              | (go_at_call 44;(with_reducible refine (EB.out _).mono ?_);rintro e w2 ⟨uB,rfl,hu,hb⟩;have UA:=Lib.hid (UA.out.below hb);have UB:=Lib.hid hu;have B0:=Lib.hid (bl_then (show Below w.heap.size w _ by first|exact B0.out|exact bl_drewN B0.out _|exact bl_drewN (bl_drewN B0.out _) _|exact bl_drewN (bl_drewN (bl_drewN B0.out _) _) _) hb);clear hu hb)
              | (go_at_call 44;(with_reducible refine (EP.out _).mono ?_);rintro e w3 ⟨uP,rfl,hu,hb⟩;have UM:=Lib.hid (UM.out.below hb);have UP:=Lib.hid hu;have B0:=Lib.hid (bl_then (show Below w.heap.size w _ by first|exact B0.out|exact bl_drewN B0.out _|exact bl_drewN (bl_drewN B0.out _) _|exact bl_drewN (bl_drewN (bl_drewN B0.out _) _) _) hb);clear hu hb)
              | (go_at_call 45;(with_reducible refine (TM.out _ _ _ UA.out UB.out).mono ?_);rintro e w5 ⟨uM,rfl,hu,hb⟩;have UM:=Lib.hid hu;have B0:=Lib.hid (bl_then B0.out hb);clear hu hb)
              | (go_at_call 43;(with_reducible refine (CM.out _ _ _ UM.out UP.out).mono ?_);rintro e w6 ⟨rfl,hb⟩;have B0:=Lib.hid (bl_then B0.out hb);clear hb)
              | (go_at_call 41;refine (SC.out _).mono ?_;rintro e w' ⟨rfl,rfl⟩))
            go_ret
            exact ⟨_,rfl,Fo.mk AR.out AW.out,B0.out⟩
  · have hf':(fin a && fin b)=false:=by simpa using hf
    have AR:=Lib.hid (mulR_no (m:=m) (okB_n hf'))
    obtain ⟨xa,hxa⟩:∃ x,fin a=x:=⟨_,rfl⟩
    obtain ⟨xb,hxb⟩:∃ x,fin b=x:=⟨_,rfl⟩
    rw [hxa,hxb] at hf'
    rw [hxa] at FA
    rw [hxb] at FB
    clear hf ha hb hxa hxb
    have hc:xa=false ∨ xa=true∧xb=false:=by cases xa <;> cases xb <;> simp at hf' ⊢
    clear hf'
    rcases hc with rfl|⟨rfl,rfl⟩
    all_goals
      go_enter Tryz.func20,Tryz.ntmps20
      go_wp2_with (first|(refine wp_arith .f64 a b rfl rfl rfl ?_;intro r n hr;have HR:=Lib.hid (fo_of hr (fun y hy=>(mul_opt hy).1));clear hr)|(go_at_call 39;(with_reducible (first|refine (FA.out _).mono ?_|refine (FB.out _).mono ?_));rintro e w' ⟨rfl,n,rfl⟩))
      go_ret
      exact ⟨_,rfl,by rw [AR.out];exact HR.out,by repeat' (first|(with_reducible exact Below.refl _ _)|(with_reducible refine bl_alloc ?_ _)|(with_reducible refine bl_drewN ?_ _)|(with_reducible refine bl_drew ?_)|(with_reducible refine bl_set ?_ _ (by simp)))⟩
set_option maxHeartbeats 8000000 in
theorem gdiv_c (a b:Nat) (m:Int) (ha:W64 a) (hb:W64 b) (w:World) :
    Calls Tryz.prog 22 #[.float .f64 a,.float .f64 b,.int .i8 m] w fun e w'=>∃ r,e=.returned (.float .f64 r)∧Fo (divR a b m) r∧Below w.heap.size w w':=by
  have FA:=Lib.hid (fun w=>g_fin_c a ha w)
  have FB:=Lib.hid (fun w=>g_fin_c b hb w)
  by_cases hf:(fin a && fin b)=true
  · have fa:fin a=true:=by cases h:fin a <;> rw [h] at hf <;> simp at hf ⊢
    have fb:fin b=true:=by cases h:fin b <;> rw [h,fa] at hf <;> simp at hf ⊢
    have ra:=fin_r fa
    have rb:=fin_r fb
    rw [fa] at FA
    rw [fb] at FB
    clear hf
    by_cases za:rg a=0
    · have e0:(FloatKind.f64.format.order a 0 == some .eq)=true:=by rw [eqz ha (by omega),decide_eq_true za]
      have AR:=Lib.hid (divR_no (m:=m) (okB_a (b:=b) za))
      clear ha hb fa fb ra rb za
      go_enter Tryz.func22,Tryz.ntmps22
      go_wp2_with (first|(refine wp_arith .f64 a b rfl rfl rfl ?_;intro r n hr;have HR:=Lib.hid (fo_of hr (fun y hy=>(div_opt hy).1));clear hr)|(go_at_call 39;(with_reducible (first|refine (FA.out _).mono ?_|refine (FB.out _).mono ?_));rintro e w' ⟨rfl,n,rfl⟩))
      go_ret
      exact ⟨_,rfl,by rw [AR.out];exact HR.out,by repeat' (first|(with_reducible exact Below.refl _ _)|(with_reducible refine bl_alloc ?_ _)|(with_reducible refine bl_drewN ?_ _)|(with_reducible refine bl_drew ?_)|(with_reducible refine bl_set ?_ _ (by simp)))⟩
    · have e0:(FloatKind.f64.format.order a 0 == some .eq)=false:=by rw [eqz ha (by omega),decide_eq_false za]
      by_cases zb:rg b=0
      · have e1:(FloatKind.f64.format.order b 0 == some .eq)=true:=by rw [eqz hb (by omega),decide_eq_true zb]
        have AR:=Lib.hid (divR_no (m:=m) (okB_b (a:=a) zb))
        clear ha hb fa fb ra rb za zb
        go_enter Tryz.func22,Tryz.ntmps22
        go_wp2_with (first|(refine wp_arith .f64 a b rfl rfl rfl ?_;intro r n hr;have HR:=Lib.hid (fo_of hr (fun y hy=>(div_opt hy).1));clear hr)|(go_at_call 39;(with_reducible (first|refine (FA.out _).mono ?_|refine (FB.out _).mono ?_));rintro e w' ⟨rfl,n,rfl⟩))
        go_ret
        exact ⟨_,rfl,by rw [AR.out];exact HR.out,by repeat' (first|(with_reducible exact Below.refl _ _)|(with_reducible refine bl_alloc ?_ _)|(with_reducible refine bl_drewN ?_ _)|(with_reducible refine bl_drew ?_)|(with_reducible refine bl_set ?_ _ (by simp)))⟩
      · have e1:(FloatKind.f64.format.order b 0 == some .eq)=false:=by rw [eqz hb (by omega),decide_eq_false zb]
        obtain ⟨p,_,hp,pw,_,pn,_⟩:=div64x ha hb ra rb zb
        have pr:=(div_opt hp).2
        have AR:=Lib.hid (divR_ok (m:=m) (okB_t fa fb za zb) hp)
        have AW:Hid (W64 (settleW p (divS a b p) (wayI m))):=Lib.hid (settle_w pw pr)
        have d0:∀ (t':TypeId) w,(binOp .quo t' (.float .f64 a) (.float .f64 b)).run Tryz.prog w=.ok (.float .f64 p) w:=fun t' w=>run_float_arith w .quo t' .f64 a b p hp
        have FS:=Lib.hid (fun w=>g_fin_c p pw w)
        by_cases pi:rg p=9218868437227405312
        · rw [fin_f (x:=p) (by omega)] at FS
          rw [settle_inf pi] at AR AW
          have GC:=Lib.hid (fun w=>g_great_c p m pw pi w)
          clear pi pw pr pn hp za zb ra rb fa fb ha hb
          go_enter Tryz.func22,Tryz.ntmps22
          go_wp2_with (first|(go_at_call 39;(with_reducible (first|refine (FA.out _).mono ?_|refine (FB.out _).mono ?_|refine (FS.out _).mono ?_));rintro e w' ⟨rfl,n,rfl⟩)|(go_at_call 51;refine (GC.out _).mono ?_;rintro e w' ⟨rfl,rfl⟩))
          go_ret
          exact ⟨_,rfl,Fo.mk AR.out AW.out,by repeat' (first|(with_reducible exact Below.refl _ _)|(with_reducible refine bl_alloc ?_ _)|(with_reducible refine bl_drewN ?_ _)|(with_reducible refine bl_drew ?_)|(with_reducible refine bl_set ?_ _ (by simp)))⟩
        · have rp:rg p < 9218868437227405312:=by omega
          rw [fin_t rp] at FS
          have SC:Hid (∀ w,Calls Tryz.prog 41 #[.float .f64 p,.int .i64 (divS a b p),.int .i8 m] w fun e w'=>e=.returned (.float .f64 (settleW p (divS a b p) (wayI m)))∧w=w'):=Lib.hid (fun w=>g_sideA_c p (divS a b p) m pw rp (fun h=>divS_z pn h) w)
          have MP:=Lib.hid (fun w=>g_mid_c p pw (by omega) w)
          have MA:=Lib.hid (fun w=>g_mid_c a ha (by omega) w)
          have MB:=Lib.hid (fun w=>g_mid_c b hb (by omega) w)
          have S2:=Lib.hid (fun w=>g_sign_c b hb w)
          by_cases hm:(midB a && midB b && midB p)=true
          · obtain ⟨⟨pa,pb⟩,pp⟩:(midB a=true∧midB b=true)∧midB p=true:=by simpa using hm
            rw [pa] at MA
            rw [pb] at MB
            rw [pp] at MP
            obtain ⟨t,ht,tw,ts⟩:=div_side ha hb ra rb zb hp rp (mid_rg pp) (mid_rg pa)
            have D:=run_fma64 ht
            have S1:=Lib.hid (fun w=>g_sign_c t tw w)
            have wm:=sgI_mul t b
            obtain ⟨u,hu⟩:∃ u,sgI t=u:=⟨_,rfl⟩
            obtain ⟨v,hv⟩:∃ v,sgI b=v:=⟨_,rfl⟩
            rw [hu] at S1 ts wm
            rw [hv] at S2 ts wm
            rw [← ts] at AR AW SC
            clear ts hu hv hm pa pb pp ht tw pi pw pr pn rp hp za zb ra rb fa fb ha hb
            go_enter Tryz.func22,Tryz.ntmps22
            go_wp2_with (first|(go_at_call 39;(with_reducible (first|refine (FA.out _).mono ?_|refine (FB.out _).mono ?_|refine (FS.out _).mono ?_));rintro e w' ⟨rfl,n,rfl⟩)|(go_at_call 40;(with_reducible (first|refine (MA.out _).mono ?_|refine (MB.out _).mono ?_|refine (MP.out _).mono ?_));rintro e w' ⟨rfl,rfl⟩)|(go_at_call 42;(with_reducible (first|refine (S1.out _).mono ?_|refine (S2.out _).mono ?_));rintro e w' ⟨rfl,rfl⟩)|(go_at_call 41;refine (SC.out _).mono ?_;rintro e w' ⟨rfl,rfl⟩))
            go_ret
            exact ⟨_,rfl,Fo.mk AR.out AW.out,by repeat' (first|(with_reducible exact Below.refl _ _)|(with_reducible refine bl_alloc ?_ _)|(with_reducible refine bl_drewN ?_ _)|(with_reducible refine bl_drew ?_)|(with_reducible refine bl_set ?_ _ (by simp)))⟩
          · have hm:(midB a && midB b && midB p)=false:=by simpa using hm
            obtain ⟨ba,hba⟩:∃ b,midB a=b:=⟨_,rfl⟩
            obtain ⟨bb,hbb⟩:∃ c,midB b=c:=⟨_,rfl⟩
            obtain ⟨bp,hbp⟩:∃ b,midB p=b:=⟨_,rfl⟩
            rw [hba] at MA hm
            rw [hbb] at MB hm
            rw [hbp] at MP hm
            clear hba hbb hbp
            have EA:Hid (∀ w,Calls Tryz.prog 44 #[.float .f64 a] w (ZPost 1074 1023 (val a) w)):=Lib.hid (fun w=>exact_s a ha ra)
            have EB:Hid (∀ w,Calls Tryz.prog 44 #[.float .f64 b] w (ZPost 1074 1023 (val b) w)):=Lib.hid (fun w=>exact_s b hb rb)
            have EP:Hid (∀ w,Calls Tryz.prog 44 #[.float .f64 p] w (ZPost 1074 1023 (val p) w)):=Lib.hid (fun w=>exact_s p pw rp)
            have TM:Hid (∀ w u v,NS w u 1074 1023 (val p)→NS w v 1074 1023 (val b)→Calls Tryz.prog 45 #[u,v] w (ZPost 2148 2046 (val p * val b) w)):=Lib.hid (fun w u v h1 h2=>times_s h1 h2 (sz_val rp) (sz_val rb) (by decide) (by decide) (by decide) (by decide))
            have CM:Hid (∀ w u v,NS w u 1074 1023 (val a)→NS w v 2148 2046 (val p * val b)→Calls Tryz.prog 43 #[u,v] w fun e w'=>e=.returned (.int .i64 (cmpZ (val a * ((p2 1074:Nat):Int)) (val p * val b)))∧Below w.heap.size w w'):=Lib.hid (fun w u v h1 h2=>compare_s ((h1.up 1074).wide (by decide)) h2 (sz_of (sz_sc ra)) (sz_of (sz_prod rp rb)) (sz_diff (sz_sc ra) (sz_prod rp rb)) (by decide) (by decide))
            have wm:=cmp_wrap (val a * ((p2 1074:Nat):Int)) (val p * val b) b
            have ho:cmpZ (val a * ((p2 1074:Nat):Int)) (val p * val b) * sgI b=divS a b p:=by rw [cmpZ_sign,sgI_val (by omega)];rfl
            rw [← ho] at AR AW SC
            obtain ⟨u,hu⟩:∃ u,cmpZ (val a * ((p2 1074:Nat):Int)) (val p * val b)=u:=⟨_,rfl⟩
            obtain ⟨v,hv⟩:∃ v,sgI b=v:=⟨_,rfl⟩
            rw [hu] at CM AR AW wm SC
            rw [hv] at S2 AR AW wm SC
            clear ho hu hv pi pw pr pn rp hp za zb ra rb fa fb ha hb
            have B0:=Lib.hid (Below.refl w.heap.size w)
            have hm3:ba=false ∨ (ba=true∧bb=false) ∨ (ba=true∧bb=true∧bp=false):=by cases ba <;> cases bb <;> cases bp <;> simp at hm ⊢
            clear hm
            rcases hm3 with rfl|⟨rfl,rfl⟩|⟨rfl,rfl,rfl⟩
            all_goals
              go_enter Tryz.func22,Tryz.ntmps22
              go_wp2_with (first
                | (go_at_call 39;(with_reducible (first|refine (FA.out _).mono ?_|refine (FB.out _).mono ?_|refine (FS.out _).mono ?_));rintro e w' ⟨rfl,n,rfl⟩)
                | (go_at_call 40;(with_reducible (first|refine (MA.out _).mono ?_|refine (MB.out _).mono ?_|refine (MP.out _).mono ?_));rintro e w' ⟨rfl,rfl⟩)
                | (go_at_call 44;(with_reducible refine (EA.out _).mono ?_);rintro e w1 ⟨uA,rfl,hu,hb⟩;have UA:=Lib.hid hu;have B0:=Lib.hid (bl_then (show Below w.heap.size w _ by first|exact B0.out|exact bl_drewN B0.out _|exact bl_drewN (bl_drewN B0.out _) _|exact bl_drewN (bl_drewN (bl_drewN B0.out _) _) _) hb);clear hu hb)
                | (go_at_call 44;(with_reducible refine (EP.out _).mono ?_);rintro e w2 ⟨uP,rfl,hu,hb⟩;have UA:=Lib.hid (UA.out.below hb);have UP:=Lib.hid hu;have B0:=Lib.hid (bl_then (show Below w.heap.size w _ by first|exact B0.out|exact bl_drewN B0.out _|exact bl_drewN (bl_drewN B0.out _) _|exact bl_drewN (bl_drewN (bl_drewN B0.out _) _) _) hb);clear hu hb)
                | (go_at_call 44;(with_reducible refine (EB.out _).mono ?_);rintro e w3 ⟨uB,rfl,hu,hb⟩;have UA:=Lib.hid (UA.out.below hb);have UP:=Lib.hid (UP.out.below hb);have UB:=Lib.hid hu;have B0:=Lib.hid (bl_then (show Below w.heap.size w _ by first|exact B0.out|exact bl_drewN B0.out _|exact bl_drewN (bl_drewN B0.out _) _|exact bl_drewN (bl_drewN (bl_drewN B0.out _) _) _) hb);clear hu hb)
                | (go_at_call 45;(with_reducible refine (TM.out _ _ _ UP.out UB.out).mono ?_);rintro e w5 ⟨uM,rfl,hu,hb⟩;have UA:=Lib.hid (UA.out.below hb);have UM:=Lib.hid hu;have B0:=Lib.hid (bl_then B0.out hb);clear hu hb)
                | (go_at_call 43;(with_reducible refine (CM.out _ _ _ UA.out UM.out).mono ?_);rintro e w6 ⟨rfl,hb⟩;have B0:=Lib.hid (bl_then B0.out hb);clear hb)
                | (go_at_call 42;(with_reducible refine (S2.out _).mono ?_);rintro e w' ⟨rfl,rfl⟩)
                | (go_at_call 41;refine (SC.out _).mono ?_;rintro e w' ⟨rfl,rfl⟩))
              go_ret
              exact ⟨_,rfl,Fo.mk AR.out AW.out,B0.out⟩
  · have hf':(fin a && fin b)=false:=by simpa using hf
    have AR:=Lib.hid (divR_no (m:=m) (okB_n hf'))
    obtain ⟨xa,hxa⟩:∃ x,fin a=x:=⟨_,rfl⟩
    obtain ⟨xb,hxb⟩:∃ x,fin b=x:=⟨_,rfl⟩
    rw [hxa,hxb] at hf'
    rw [hxa] at FA
    rw [hxb] at FB
    clear hf ha hb hxa hxb
    have hc:xa=false ∨ xa=true∧xb=false:=by cases xa <;> cases xb <;> simp at hf' ⊢
    clear hf'
    rcases hc with rfl|⟨rfl,rfl⟩
    all_goals
      go_enter Tryz.func22,Tryz.ntmps22
      go_wp2_with (first|(refine wp_arith .f64 a b rfl rfl rfl ?_;intro r n hr;have HR:=Lib.hid (fo_of hr (fun y hy=>(div_opt hy).1));clear hr)|(go_at_call 39;(with_reducible (first|refine (FA.out _).mono ?_|refine (FB.out _).mono ?_));rintro e w' ⟨rfl,n,rfl⟩))
      go_ret
      exact ⟨_,rfl,by rw [AR.out];exact HR.out,by repeat' (first|(with_reducible exact Below.refl _ _)|(with_reducible refine bl_alloc ?_ _)|(with_reducible refine bl_drewN ?_ _)|(with_reducible refine bl_drew ?_)|(with_reducible refine bl_set ?_ _ (by simp)))⟩
end Go.Proofs.YtmndoelimincdaaGreatDoor
namespace Go.Proofs.YtmndoelimincdaaGreatDoor
open Go Go.RowKit GFl Ieee
set_option maxRecDepth 100000
set_option linter.unusedSimpArgs false
theorem awake03_c (w:World) (hT:Tab w):Calls Tryz.prog 14 #[] w fun e w2=>e=.returned (.bool true)∧Below w.heap.size w w2 :=
  awake03_of w fun _ h2=>rint_t (hT.below h2) join_r
set_option maxHeartbeats 1000000 in
theorem roundProducts_c (a b:Nat) (m:Int) (ha:W64 a) (hb:W64 b) (w:World) (hT:Tab w) :
    Calls Tryz.prog 5 #[.float .f64 a,.float .f64 b,.int .i8 m] w fun e w'=>e=.returned (.bool true)∧Below w.heap.size w w':=by
  have P1:Hid (∀ w',Below w.heap.size w w'→Calls Tryz.prog 19 #[.float .f64 a,.float .f64 b,.int .i8 m] w' fun e w2=>∃ r,e=.returned (.float .f64 r)∧Fo (mulR a b m) r∧Below w'.heap.size w' w2):=Lib.hid (fun w' h=>rmul_c a b m ha hb w' (hT.below h))
  have P2:=Lib.hid (fun w=>gmul_c a b m ha hb w)
  have P3:Hid (∀ w',Below w.heap.size w w'→Calls Tryz.prog 21 #[.float .f64 a,.float .f64 b,.int .i8 m] w' fun e w2=>∃ r,e=.returned (.float .f64 r)∧Fo (divR a b m) r∧Below w'.heap.size w' w2):=Lib.hid (fun w' h=>rdiv_c a b m ha hb w' (hT.below h))
  have P4:=Lib.hid (fun w=>gdiv_c a b m ha hb w)
  have SF:Hid (∀ o r s w,Fo o r→Fo o s→Calls Tryz.prog 9 #[.float .f64 r,.float .f64 s] w fun e w'=>e=.returned (.bool true)∧w'=w):=Lib.hid (fun o r s w h k=>(sameFloat_c r s h.1 k.1 w).mono fun _ _ x=>⟨by rw [x.1,h.same k],x.2⟩)
  have HA:Hid (∀ w',Below w.heap.size w w'→Calls Tryz.prog 14 #[] w' fun e w2=>e=.returned (.bool true)∧Below w'.heap.size w' w2):=Lib.hid (fun w' h=>awake03_c w' (hT.below h))
  have B0:=Lib.hid (Below.refl w.heap.size w)
  clear ha hb hT
  go_enter Tryz.func5,Tryz.ntmps5
  go_wp2_with (first
    | (go_at_call 19;(with_reducible refine (P1.out _ (by first|exact B0.out|exact bl_drew B0.out|exact bl_drewN B0.out _)).mono ?_);rintro e w1 ⟨r1,rfl,hr,hb⟩;have R1:=Lib.hid hr;have B0:=Lib.hid (bl_then (show Below w.heap.size w _ by first|exact B0.out|exact bl_drew B0.out|exact bl_drewN B0.out _) hb);clear hr hb)
    | (go_at_call 20;(with_reducible refine (P2.out _).mono ?_);rintro e w2 ⟨r2,rfl,hr,hb⟩;have R2:=Lib.hid hr;have B0:=Lib.hid (bl_then (show Below w.heap.size w _ by first|exact B0.out|exact bl_drew B0.out|exact bl_drewN B0.out _) hb);clear hr hb)
    | (go_at_call 21;(with_reducible refine (P3.out _ (by first|exact B0.out|exact bl_drew B0.out|exact bl_drewN B0.out _)).mono ?_);rintro e w3 ⟨r3,rfl,hr,hb⟩;have R3:=Lib.hid hr;have B0:=Lib.hid (bl_then (show Below w.heap.size w _ by first|exact B0.out|exact bl_drew B0.out|exact bl_drewN B0.out _) hb);clear hr hb)
    | (go_at_call 22;(with_reducible refine (P4.out _).mono ?_);rintro e w4 ⟨r4,rfl,hr,hb⟩;have R4:=Lib.hid hr;have B0:=Lib.hid (bl_then (show Below w.heap.size w _ by first|exact B0.out|exact bl_drew B0.out|exact bl_drewN B0.out _) hb);clear hr hb)
    | (go_at_call 9;(with_reducible (first|refine (SF.out _ _ _ _ R1.out R2.out).mono ?_|refine (SF.out _ _ _ _ R3.out R4.out).mono ?_));rintro e w5 ⟨rfl,hw⟩;obtain rfl:=hw.symm;clear hw)
    | (go_at_call 14;(with_reducible refine (HA.out _ (by first|exact B0.out|exact bl_drew B0.out|exact bl_drewN B0.out _)).mono ?_);rintro e w6 ⟨rfl,hb⟩;have B0:=Lib.hid (bl_then (show Below w.heap.size w _ by first|exact B0.out|exact bl_drew B0.out|exact bl_drewN B0.out _) hb);clear hb))
  go_ret
  exact ⟨by first|rfl|simp,by first|exact B0.out|exact bl_drewN B0.out _⟩
theorem roundProducts_r (a b:Nat) (m:Int) (ha:W64 a) (hb:W64 b) (w:World) (hT:Tab w) :
    Calls Tryz.prog 5 #[.float .f64 a,.float .f64 b,.int .i8 m] w fun e w'=>e=.returned (.bool true)∧Below w.heap.size w w':=roundProducts_c a b m ha hb w hT
end Go.Proofs.YtmndoelimincdaaGreatDoor
namespace Go.Proofs.YtmndoelimincdaaGreatDoor
open Go Go.ChangeShapes Go.WideShapes Go.RowKit GFl
set_option maxRecDepth 100000
theorem Tryz.own:ownKnob Tryz.prog.godebug=none:=by kernel_rfl
theorem w64_of {x:Nat} (h:(Lit.float .f64 x).wf=true):W64 x:=W64.mk (by simpa [Lit.wf] using h)
theorem no_standIn {ps:Array TypeId} {fn:Func} (h:fn.params=ps) (hall:(ps.toList.all fun t=>!Tryz.prog.wantsStandIn t)=true):∀ (j:Nat) (t:TypeId),fn.params[j]?=some t→Tryz.prog.wantsStandIn t=false:=by
  intro j t ht
  rw [h] at ht
  have hm:t ∈ ps.toList:=by rw [Array.mem_toList_iff];exact Array.mem_of_getElem? ht
  have:=List.all_eq_true.1 hall t hm
  simpa using this
def tabZs:List Int:=Lib.deBruijn64tab.map fun (n:Nat)=>(n:Int)
def laidL : List (String × DataW Unit) := [("math/bits.deBruijn64tab", Rows.laid_math_bits_deBruijn64tab)]
theorem laidL_eq : laidL = ("math/bits.deBruijn64tab", Lib.tabData .u8 tabZs) :: [] := by kernel_rfl
theorem tab_named : Tryz.prog.globalNamed "math/bits.deBruijn64tab" = some 1 := by kernel_rfl
theorem tab_type:(Tryz.prog.globals[1]?).map (·.type)=some 127:=by kernel_rfl
theorem tab_of_laid {W:World} (h:laidMet Tryz.prog laidL W):Tab W:=by
  rw [laidL_eq] at h
  have ht:=Lib.tabIs_of_head tab_named tab_type Tryz.underlying127 Tryz.underlying5 (by kernel_rfl) (by kernel_rfl) h
  intro j hj
  have hc:=ht.cell tab_named j (by simpa [tabZs] using hj)
  rw [hc]
  congr 2
  simp [tabZs,List.getD,hj]
def tabCells:Array Value:=(tabZs.map fun z=>Value.int .u8 z).toArray
noncomputable def laidWorld (os:Os):World :=
  { World.holding Tryz.prog os ⟨#[],#[],[]⟩ with heap:=(World.holding Tryz.prog os ⟨#[],#[],[]⟩).heap.modify 1 fun
      | .cells _ t frozen=>.cells tabCells t frozen
      | o=>o }
theorem laidWorld_row (os:Os) (args:Array Value):((laidWorld os).forCall (fun _ _=>0) ⟨#[],args,[]⟩).memory.heap[1]?=some (.cells tabCells 127 (0,0)):=by kernel_rfl
theorem tab_places:((MemPlace.row ⟨1,0,none⟩ tabCells.size ++ ([]:List MemPlace) ++ []).Nodup):=by decide
theorem laidWorld_met (os:Os) (args:Array Value):laidMet Tryz.prog laidL ((laidWorld os).forCall (fun _ _=>0) ⟨#[],args,[]⟩).memory:=by
  refine ⟨_,⟨1,127,tabCells,8,[],[],by kernel_rfl,by kernel_rfl,by kernel_rfl,by kernel_rfl,rfl,rfl⟩,tab_places,fun b off h=>?_⟩
  have h':MemPlace.cell b off ∈ (MemPlace.row ⟨1,0,none⟩ tabCells.size:List MemPlace):=by simpa using h
  have hall:(MemPlace.row ⟨1,0,none⟩ tabCells.size:List MemPlace).all (fun p=>match p with|.cell b _=>b == 1|_=>false)=true:=by decide
  have hb:=List.all_eq_true.1 hall _ h'
  obtain rfl:b=1:=by simpa using hb
  refine ⟨⟨_,_,laidWorld_row os args⟩,fun u v hc=>?_⟩
  exfalso
  simp only [World.cell?,laidWorld_row os args] at hc
  have hc':tabCells[off]?=some (.iface u v):=by simpa using hc
  unfold tabCells at hc'
  simp at hc'
end Go.Proofs.YtmndoelimincdaaGreatDoor
