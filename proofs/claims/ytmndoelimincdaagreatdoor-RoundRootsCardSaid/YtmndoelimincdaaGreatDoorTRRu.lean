import Derived.Test.YtmndoelimincdaaGreatDoorTRRt
import Derived.Test.YtmndoelimincdaaGreatDoorTRRl
import Derived.Test.YtmndoelimincdaaGreatDoorTRRr
import Derived.Test.YtmndoelimincdaaGreatDoorTRRs
import Derived.Test.YtmndoelimincdaaGreatDoorTRRk
import Derived.ProofKit
import Derived.Lib.LaidTab
import Derived.SevenTiedAt
import Derived.JoinedOf
import Derived.ChangeSame
import Derived.ChangeVars
namespace Go.Proofs.YtmndoelimincdaaGreatDoor
open Go Go.RowKit GFl Ieee Nv
set_option maxRecDepth 100000
set_option linter.unusedSimpArgs false
attribute [local go_sem] run_f64bits run_f64frombits run_neg_f64
theorem run_sqrtA (x:Nat) (w:World):∃ r n,FR .f64 (double.sqrt x) r∧(callFunc 63 #[.float .f64 x]).run Tryz.prog w=.ok (.value (.float .f64 r)) (w.drewN n):=by
  cases hb:double.sqrt x with
  | some z=>exact ⟨z,0,rfl,run_sqrt64 hb w⟩
  | none =>
    have e:(callFunc 63 #[.float .f64 x]).run Tryz.prog w=.ok (.value (.float .f64 ((Question.nanBits .f64 x x).cut (w.tape w.drawn (.nanBits .f64 x x))))) (w.drewN 1):=by
      rw [run_callFunc_extern (P:=Tryz.prog) (f:=63) (fn:=Tryz.f63) (e:=Extern.MathSqrt.sqrt) (by kernel_rfl) (by kernel_rfl) (by kernel_rfl) (by kernel_rfl) (by kernel_rfl)]
      have h':FloatKind.f64.format.sqrt x=none:=hb
      have e:Extern.MathSqrt.sqrt #[.float .f64 x]=(match FloatKind.f64.format.sqrt x with|some r=>pure (.float .f64 r)|none=>do pure (.float .f64 (← choose (.nanBits .f64 x x)))):=rfl
      rw [e,h']
      simp [choose,Sem.run,Question.forced,World.drewN]
    refine ⟨_,1,?_,e⟩
    generalize w.tape w.drawn (.nanBits .f64 x x)=t
    have e1:FloatKind.f64.format.infRung=9218868437227405312:=by decide
    have e2:FloatKind.f64.format.signWeight=9223372036854775808:=by decide
    have e3:2 ^ FloatKind.f64.format.width=18446744073709551616:=by decide
    simp only [FR,Question.cut,e1,e2,e3]
    have h2:t % 2=0 ∨ t % 2=1:=by omega
    rcases h2 with h2|h2 <;> rw [h2] <;> omega
theorem sqrt_any (x:Nat) (w:World):Calls Tryz.prog 30 #[.float .f64 x] w fun e w'=>∃ r n,e=.returned (.float .f64 r)∧Fo (double.sqrt x) r∧w'=w.drewN n:=by
  obtain ⟨r,n,hr,D⟩:=run_sqrtA x w
  have HR:=Lib.hid (fo_of hr (fun y hy=>(sqrt_opt hy).1))
  clear hr
  go_enter Tryz.func30,Tryz.ntmps30
  go_wp2
  go_ret
  exact ⟨r,n,rfl,HR.out,rfl⟩
theorem le0f {x:Nat} (hx:W64 x) (h:fin x=true):(FloatKind.f64.format.order x 0 == some .lt || FloatKind.f64.format.order x 0 == some .eq)=!decide (0 < plc x):=by
  rw [le0 hx,fin_isn h,Bool.eq_iff_iff]
  simp
theorem pos_facts {a:Nat} (h:0 < plc a):neg a=false∧rg a ≠ 0:=by
  rw [plc_eq] at h
  cases hn:neg a
  · rw [hn] at h;simp only [Bool.false_eq_true,if_false] at h;exact ⟨rfl,by omega⟩
  · rw [hn] at h;simp only [if_true] at h;omega
theorem sqrtS_z {a r:Nat} (ha:neg a=false) (hn:neg r=false) (hz:rg r=0):(neg r=false→0≤sqrtS a r)∧(neg r=true→sqrtS a r≤0):=by
  unfold sqrtS
  rw [val_z hz,Int.zero_mul,Int.sub_zero,hn]
  exact ⟨fun _=>sign_mono.1 (Int.mul_nonneg ((val_sg a).1 ha) (Int.natCast_nonneg _)),fun h=>by cases h⟩
set_option maxHeartbeats 4000000 in
theorem rsqrtA_c (a:Nat) (m:Int) (ha:W64 a) (w:World) (hT:Tab w) :
    Calls Tryz.prog 10 #[.float .f64 a,.int .i8 m] w fun e w'=>∃ r,e=.returned (.float .f64 r)∧Fo (sqrtR a m) r∧Below w.heap.size w w':=by
  have SQ:=Lib.hid (fun w=>sqrt_any a w)
  have WC:=Lib.hid (fun w=>way_c m w)
  have fn:∀ (w:World) (b:Nat),b=w.heap.size→Calls Tryz.prog 31 #[.slice (some ⟨b,0,none⟩) 1 1] (w.alloc (.cells #[.float .f64 a] 22)) fun e w'=>e=.returned (.bool (fin a))∧w.alloc (.cells #[.float .f64 a] 22)=w':=fun w b hb=>hb ▸
    (finite_c _ [a] (by simp) (by simpa using ha) _ (frow1 a w _)).mono fun _ _ h=>⟨by rw [h.1];simp,h.2⟩
  have FN:=Lib.hid fn
  clear fn
  by_cases fa:fin a=true
  · rw [fa] at FN
    have ra:=fin_r fa
    by_cases hp:0 < plc a
    · have k1:(FloatKind.f64.format.order a 0 == some .lt || FloatKind.f64.format.order a 0 == some .eq)=false:=by rw [le0f ha fa,decide_eq_true hp];rfl
      obtain ⟨na,za⟩:=pos_facts hp
      obtain ⟨r,hs,rw',nr,rr,big⟩:=sqrt64x ha na za ra
      have AR:=Lib.hid (sqrtR_ok (m:=m) (by rw [fa,decide_eq_true hp];rfl) hs)
      have AW:Hid (W64 (settleW r (sqrtS a r) (wayI m))):=Lib.hid (settle_w rw' (by omega))
      have SK:=Lib.hid (fun w=>sqrt_c hs w)
      have SC:=Lib.hid (fun off w=>settle_c r off (wayI m) rw' (by omega) w)
      have pl:∀ (w:World) (b:Nat),b=w.heap.size→Calls Tryz.prog 32 #[.slice (some ⟨b,0,none⟩) 1 1] (w.alloc (.cells #[.float .f64 a] 22)) fun e w'=>e=.returned (.bool (plainF a))∧w.alloc (.cells #[.float .f64 a] 22)=w':=fun w b hb=>hb ▸
        (plain_c _ [a] (by simp) (by simpa using ha) _ (frow1 a w _)).mono fun _ _ h=>⟨by rw [h.1];simp,h.2⟩
      have PL:=Lib.hid pl
      clear pl
      by_cases hm:plainF a=true
      · rw [hm] at PL
        obtain ⟨t,ht,tw,ts⟩:=sqrt_side ha rw' ra rr (big (mg_big ((plain_rg hm).1)))
        have D:=run_fma64 ht
        have S1:=Lib.hid (fun w=>sign_c t tw w)
        rw [ts] at S1
        obtain ⟨off,ho⟩:∃ o,sqrtS a r=o:=⟨_,rfl⟩
        rw [ho] at AR AW S1
        clear ts ho hm ht tw hs rw' nr rr big na za ra hp fa ha SQ hT
        go_enter Tryz.func10,Tryz.ntmps10
        go_wp2_with (first
          | (go_at_call 29;refine (WC.out _).mono ?_;rintro e w' ⟨rfl,rfl⟩)
          | (go_at_call 30;(with_reducible refine (SK.out _).mono ?_);rintro e w' ⟨rfl,rfl⟩)
          | (go_at_call 31;refine (FN.out _ _ (by simp)).mono ?_;rintro e w' ⟨rfl,rfl⟩)
          | (go_at_call 32;refine (PL.out _ _ (by simp)).mono ?_;rintro e w' ⟨rfl,rfl⟩)
          | (go_at_call 34;refine (S1.out _).mono ?_;rintro e w' ⟨rfl,rfl⟩)
          | (go_at_call 33;refine (SC.out _ _).mono ?_;rintro e w' ⟨rfl,rfl⟩))
        go_ret
        exact ⟨_,rfl,Fo.mk AR.out AW.out,by repeat' (first|(with_reducible exact Below.refl _ _)|(with_reducible refine bl_alloc ?_ _)|(with_reducible refine bl_drewN ?_ _)|(with_reducible refine bl_drew ?_)|(with_reducible refine bl_set ?_ _ (by simp)))⟩
      · have hm:plainF a=false:=by simpa using hm
        rw [hm] at PL
        have EA:Hid (∀ w',Below w.heap.size w w'→Calls Tryz.prog 37 #[.float .f64 a] w' (ZY 1 1074 1023 (val a) w')):=Lib.hid (fun w' h=>rof_c a ha ra w' (hT.below h))
        have ER:Hid (∀ w',Below w.heap.size w w'→Calls Tryz.prog 37 #[.float .f64 r] w' (ZY 1 1074 1023 (val r) w')):=Lib.hid (fun w' h=>rof_c r rw' rr w' (hT.below h))
        have TM:Hid (∀ w u v,YS w u 1 1074 1023 (val r)→YS w v 1 1074 1023 (val r)→Calls Tryz.prog 38 #[u,v] w (ZY 2 2148 2046 (val r * val r) w)):=Lib.hid (fun w u v h1 h2=>rtimes_c h1 h2 (by decide) (by decide) (by decide) (by decide))
        have CM:Hid (∀ w u v,YS w u 1 1074 1023 (val a)→YS w v 2 2148 2046 (val r * val r)→Calls Tryz.prog 36 #[u,v] w fun e w'=>e=.returned (.int .i64 (sqrtS a r))∧Below w.heap.size w w'):=Lib.hid (fun w u v h1 h2=>(rcmp_c (h1.up 1074) h2).mono fun _ _ h=>⟨by rw [h.1,cmpZ_sign];rfl,h.2⟩)
        obtain ⟨off,ho⟩:∃ o,sqrtS a r=o:=⟨_,rfl⟩
        rw [ho] at AR AW CM
        clear ho hm hs rw' nr rr big na za ra hp fa ha SQ hT
        go_enter Tryz.func10,Tryz.ntmps10
        go_wp2_with (first
          | (go_at_call 29;refine (WC.out _).mono ?_;rintro e w' ⟨rfl,rfl⟩)
          | (go_at_call 30;(with_reducible refine (SK.out _).mono ?_);rintro e w' ⟨rfl,rfl⟩)
          | (go_at_call 31;refine (FN.out _ _ (by simp)).mono ?_;rintro e w' ⟨rfl,rfl⟩)
          | (go_at_call 32;refine (PL.out _ _ (by simp)).mono ?_;rintro e w' ⟨rfl,rfl⟩)
          | (go_at_call 37;(with_reducible refine (EA.out _ (by repeat' (first|(with_reducible exact Below.refl _ _)|(with_reducible refine bl_alloc ?_ _)|(with_reducible refine bl_drewN ?_ _)|(with_reducible refine bl_drew ?_)|(with_reducible refine bl_set ?_ _ (by simp))))).mono ?_);rintro e w1 ⟨u1,rfl,hu,hb⟩;have UA:=Lib.hid hu;have B0:=Lib.hid (bl_then (show Below w.heap.size w _ by repeat' (first|(with_reducible exact Below.refl _ _)|(with_reducible refine bl_alloc ?_ _)|(with_reducible refine bl_drewN ?_ _)|(with_reducible refine bl_drew ?_)|(with_reducible refine bl_set ?_ _ (by simp)))) hb);clear hu hb)
          | (go_at_call 37;(with_reducible refine (ER.out _ B0.out).mono ?_);rintro e w1 ⟨u1,rfl,hu,hb⟩;have UQ:=Lib.hid (UR.out.below hb);have UA:=Lib.hid (UA.out.below hb);have US:=Lib.hid hu;have B0:=Lib.hid (bl_then B0.out hb);clear hu hb)
          | (go_at_call 37;(with_reducible refine (ER.out _ B0.out).mono ?_);rintro e w1 ⟨u1,rfl,hu,hb⟩;have UA:=Lib.hid (UA.out.below hb);have UR:=Lib.hid hu;have B0:=Lib.hid (bl_then B0.out hb);clear hu hb)
          | (go_at_call 38;(with_reducible refine (TM.out _ _ _ UQ.out US.out).mono ?_);rintro e w5 ⟨uM,rfl,hu,hb⟩;have UA:=Lib.hid (UA.out.below hb);have UM:=Lib.hid hu;have B0:=Lib.hid (bl_then B0.out hb);clear hu hb)
          | (go_at_call 36;(with_reducible refine (CM.out _ _ _ UA.out UM.out).mono ?_);rintro e w6 ⟨rfl,hb⟩;have B0:=Lib.hid (bl_then B0.out hb);clear hb)
          | (go_at_call 33;refine (SC.out _ _).mono ?_;rintro e w' ⟨rfl,rfl⟩))
        go_ret
        exact ⟨_,rfl,Fo.mk AR.out AW.out,B0.out⟩
    · have k1:(FloatKind.f64.format.order a 0 == some .lt || FloatKind.f64.format.order a 0 == some .eq)=true:=by rw [le0f ha fa,decide_eq_false hp];rfl
      have AR:=Lib.hid (sqrtR_no (m:=m) (by rw [fa,decide_eq_false hp];rfl))
      clear hp fa ra ha hT
      go_enter Tryz.func10,Tryz.ntmps10
      go_wp2_with (first
        | (go_at_call 29;refine (WC.out _).mono ?_;rintro e w' ⟨rfl,rfl⟩)
        | (go_at_call 30;(with_reducible refine (SQ.out _).mono ?_);rintro e w' ⟨r,n,rfl,hr,rfl⟩;have HR:=Lib.hid hr;clear hr)
        | (go_at_call 31;refine (FN.out _ _ (by simp)).mono ?_;rintro e w' ⟨rfl,rfl⟩))
      go_ret
      exact ⟨_,rfl,by rw [AR.out];exact HR.out,by repeat' (first|(with_reducible exact Below.refl _ _)|(with_reducible refine bl_alloc ?_ _)|(with_reducible refine bl_drewN ?_ _)|(with_reducible refine bl_drew ?_)|(with_reducible refine bl_set ?_ _ (by simp)))⟩
  · have fa:fin a=false:=by simpa using fa
    rw [fa] at FN
    have AR:=Lib.hid (sqrtR_no (m:=m) (by rw [fa];rfl))
    clear fa ha hT
    go_enter Tryz.func10,Tryz.ntmps10
    go_wp2_with (first
      | (go_at_call 29;refine (WC.out _).mono ?_;rintro e w' ⟨rfl,rfl⟩)
      | (go_at_call 30;(with_reducible refine (SQ.out _).mono ?_);rintro e w' ⟨r,n,rfl,hr,rfl⟩;have HR:=Lib.hid hr;clear hr)
      | (go_at_call 31;refine (FN.out _ _ (by simp)).mono ?_;rintro e w' ⟨rfl,rfl⟩))
    go_ret
    exact ⟨_,rfl,by rw [AR.out];exact HR.out,by repeat' (first|(with_reducible exact Below.refl _ _)|(with_reducible refine bl_alloc ?_ _)|(with_reducible refine bl_drewN ?_ _)|(with_reducible refine bl_drew ?_)|(with_reducible refine bl_set ?_ _ (by simp)))⟩
set_option maxHeartbeats 4000000 in
theorem gsqrt_c (a:Nat) (m:Int) (ha:W64 a) (w:World) :
    Calls Tryz.prog 11 #[.float .f64 a,.int .i8 m] w fun e w'=>∃ r,e=.returned (.float .f64 r)∧Fo (sqrtR a m) r∧Below w.heap.size w w':=by
  have SQ:=Lib.hid (fun w=>sqrt_any a w)
  have FA:=Lib.hid (fun w=>g_fin_c a ha w)
  by_cases fa:fin a=true
  · rw [fa] at FA
    have ra:=fin_r fa
    by_cases hp:0 < plc a
    · have k1:(FloatKind.f64.format.order a 0 == some .lt || FloatKind.f64.format.order a 0 == some .eq)=false:=by rw [le0f ha fa,decide_eq_true hp];rfl
      obtain ⟨na,za⟩:=pos_facts hp
      obtain ⟨r,hs,rw',nr,rr,big⟩:=sqrt64x ha na za ra
      have AR:=Lib.hid (sqrtR_ok (m:=m) (by rw [fa,decide_eq_true hp];rfl) hs)
      have AW:Hid (W64 (settleW r (sqrtS a r) (wayI m))):=Lib.hid (settle_w rw' (by omega))
      have SK:=Lib.hid (fun w=>sqrt_c hs w)
      have SC:Hid (∀ w,Calls Tryz.prog 41 #[.float .f64 r,.int .i64 (sqrtS a r),.int .i8 m] w fun e w'=>e=.returned (.float .f64 (settleW r (sqrtS a r) (wayI m)))∧w=w'):=Lib.hid (fun w=>g_sideA_c r (sqrtS a r) m rw' rr (fun h=>sqrtS_z na nr h) w)
      have MA:=Lib.hid (fun w=>g_mid_c a ha (by omega) w)
      by_cases hm:midB a=true
      · rw [hm] at MA
        obtain ⟨t,ht,tw,ts⟩:=sqrt_side ha rw' ra rr (big (mg_big (mid_rg hm)))
        have D:=run_fma64 ht
        have S1:=Lib.hid (fun w=>g_sign_c t tw w)
        rw [ts] at S1
        obtain ⟨off,ho⟩:∃ o,sqrtS a r=o:=⟨_,rfl⟩
        rw [ho] at AR AW S1 SC
        clear ts ho hm ht tw hs rw' nr rr big na za ra hp fa ha SQ
        go_enter Tryz.func11,Tryz.ntmps11
        go_wp2_with (first
          | (go_at_call 30;(with_reducible refine (SK.out _).mono ?_);rintro e w' ⟨rfl,rfl⟩)
          | (go_at_call 39;(with_reducible refine (FA.out _).mono ?_);rintro e w' ⟨rfl,n,rfl⟩)
          | (go_at_call 40;refine (MA.out _).mono ?_;rintro e w' ⟨rfl,rfl⟩)
          | (go_at_call 42;refine (S1.out _).mono ?_;rintro e w' ⟨rfl,rfl⟩)
          | (go_at_call 41;refine (SC.out _).mono ?_;rintro e w' ⟨rfl,rfl⟩))
        go_ret
        exact ⟨_,rfl,Fo.mk AR.out AW.out,by repeat' (first|(with_reducible exact Below.refl _ _)|(with_reducible refine bl_alloc ?_ _)|(with_reducible refine bl_drewN ?_ _)|(with_reducible refine bl_drew ?_)|(with_reducible refine bl_set ?_ _ (by simp)))⟩
      · have hm:midB a=false:=by simpa using hm
        rw [hm] at MA
        have EA:Hid (∀ w,Calls Tryz.prog 44 #[.float .f64 a] w (ZPost 1074 1023 (val a) w)):=Lib.hid (fun w=>exact_s a ha ra)
        have ER:Hid (∀ w,Calls Tryz.prog 44 #[.float .f64 r] w (ZPost 1074 1023 (val r) w)):=Lib.hid (fun w=>exact_s r rw' rr)
        have TM:Hid (∀ w u v,NS w u 1074 1023 (val r)→NS w v 1074 1023 (val r)→Calls Tryz.prog 45 #[u,v] w (ZPost 2148 2046 (val r * val r) w)):=Lib.hid (fun w u v h1 h2=>times_s h1 h2 (sz_val rr) (sz_val rr) (by decide) (by decide) (by decide) (by decide))
        have CM:Hid (∀ w u v,NS w u 1074 1023 (val a)→NS w v 2148 2046 (val r * val r)→Calls Tryz.prog 43 #[u,v] w fun e w'=>e=.returned (.int .i64 (sqrtS a r))∧Below w.heap.size w w'):=Lib.hid (fun w u v h1 h2=>(compare_s ((h1.up 1074).wide (by decide)) h2 (sz_of (sz_sc ra)) (sz_of (sz_prod rr rr)) (sz_diff (sz_sc ra) (sz_prod rr rr)) (by decide) (by decide)).mono fun _ _ h=>⟨by rw [h.1,cmpZ_sign];rfl,h.2⟩)
        obtain ⟨off,ho⟩:∃ o,sqrtS a r=o:=⟨_,rfl⟩
        rw [ho] at AR AW CM SC
        clear ho hm hs rw' nr rr big na za ra hp fa ha SQ
        have B0:=Lib.hid (Below.refl w.heap.size w)
        go_enter Tryz.func11,Tryz.ntmps11
        go_wp2_with (first
          | (go_at_call 30;(with_reducible refine (SK.out _).mono ?_);rintro e w' ⟨rfl,rfl⟩)
          | (go_at_call 39;(with_reducible refine (FA.out _).mono ?_);rintro e w' ⟨rfl,n,rfl⟩)
          | (go_at_call 40;refine (MA.out _).mono ?_;rintro e w' ⟨rfl,rfl⟩)
          | (go_at_call 44;(with_reducible refine (EA.out _).mono ?_);rintro e w1 ⟨u1,rfl,hu,hb⟩;have UA:=Lib.hid hu;have B0:=Lib.hid (bl_then (show Below w.heap.size w _ by first|exact B0.out|exact bl_drewN B0.out _|exact bl_drewN (bl_drewN B0.out _) _) hb);clear hu hb)
          | (go_at_call 44;(with_reducible refine (ER.out _).mono ?_);rintro e w1 ⟨u1,rfl,hu,hb⟩;have UQ:=Lib.hid (UR.out.below hb);have UA:=Lib.hid (UA.out.below hb);have US:=Lib.hid hu;have B0:=Lib.hid (bl_then (show Below w.heap.size w _ by first|exact B0.out|exact bl_drewN B0.out _|exact bl_drewN (bl_drewN B0.out _) _) hb);clear hu hb)
          | (go_at_call 44;(with_reducible refine (ER.out _).mono ?_);rintro e w1 ⟨u1,rfl,hu,hb⟩;have UA:=Lib.hid (UA.out.below hb);have UR:=Lib.hid hu;have B0:=Lib.hid (bl_then (show Below w.heap.size w _ by first|exact B0.out|exact bl_drewN B0.out _|exact bl_drewN (bl_drewN B0.out _) _) hb);clear hu hb)
          | (go_at_call 45;(with_reducible refine (TM.out _ _ _ UQ.out US.out).mono ?_);rintro e w5 ⟨uM,rfl,hu,hb⟩;have UA:=Lib.hid (UA.out.below hb);have UM:=Lib.hid hu;have B0:=Lib.hid (bl_then B0.out hb);clear hu hb)
          | (go_at_call 43;(with_reducible refine (CM.out _ _ _ UA.out UM.out).mono ?_);rintro e w6 ⟨rfl,hb⟩;have B0:=Lib.hid (bl_then B0.out hb);clear hb)
          | (go_at_call 41;refine (SC.out _).mono ?_;rintro e w' ⟨rfl,rfl⟩))
        go_ret
        exact ⟨_,rfl,Fo.mk AR.out AW.out,B0.out⟩
    · have k1:(FloatKind.f64.format.order a 0 == some .lt || FloatKind.f64.format.order a 0 == some .eq)=true:=by rw [le0f ha fa,decide_eq_false hp];rfl
      have AR:=Lib.hid (sqrtR_no (m:=m) (by rw [fa,decide_eq_false hp];rfl))
      clear hp fa ra ha
      go_enter Tryz.func11,Tryz.ntmps11
      go_wp2_with (first
        | (go_at_call 30;(with_reducible refine (SQ.out _).mono ?_);rintro e w' ⟨r,n,rfl,hr,rfl⟩;have HR:=Lib.hid hr;clear hr)
        | (go_at_call 39;(with_reducible refine (FA.out _).mono ?_);rintro e w' ⟨rfl,n,rfl⟩))
      go_ret
      exact ⟨_,rfl,by rw [AR.out];exact HR.out,by repeat' (first|(with_reducible exact Below.refl _ _)|(with_reducible refine bl_alloc ?_ _)|(with_reducible refine bl_drewN ?_ _)|(with_reducible refine bl_drew ?_)|(with_reducible refine bl_set ?_ _ (by simp)))⟩
  · have fa:fin a=false:=by simpa using fa
    rw [fa] at FA
    have AR:=Lib.hid (sqrtR_no (m:=m) (by rw [fa];rfl))
    clear fa ha
    go_enter Tryz.func11,Tryz.ntmps11
    go_wp2_with (first
      | (go_at_call 30;(with_reducible refine (SQ.out _).mono ?_);rintro e w' ⟨r,n,rfl,hr,rfl⟩;have HR:=Lib.hid hr;clear hr)
      | (go_at_call 39;(with_reducible refine (FA.out _).mono ?_);rintro e w' ⟨rfl,n,rfl⟩))
    go_ret
    exact ⟨_,rfl,by rw [AR.out];exact HR.out,by repeat' (first|(with_reducible exact Below.refl _ _)|(with_reducible refine bl_alloc ?_ _)|(with_reducible refine bl_drewN ?_ _)|(with_reducible refine bl_drew ?_)|(with_reducible refine bl_set ?_ _ (by simp)))⟩
end Go.Proofs.YtmndoelimincdaaGreatDoor
namespace Go.Proofs.YtmndoelimincdaaGreatDoor
open Go Go.RowKit GFl Ieee
set_option maxRecDepth 100000
theorem rung_at {q s:Nat} (h:q < 9007199254740992) (h1:s=0 ∨ 4503599627370496≤q):∃ p,mg B52 p=q * p2 s∧mg B52 (p + 1)=(q + 1) * p2 s∧p % 2=q % 2:=by
  have hB:B52=4503599627370496:=rfl
  by_cases hq:q < B52
  · have hs:s=0:=by omega
    subst hs
    refine ⟨q,?_,?_,rfl⟩
    · rw [mg_small hq,p2_zero,Nat.mul_one]
    · rw [mg_succ B52 q B52_pos,mg_small hq,ulp_small hq,p2_zero,Nat.mul_one]
  · refine ⟨(s + 1) * B52 + (q - B52),?_,?_,?_⟩
    · rw [mg_eq B52 s _ (by omega),p2_def,show B52 + (q - B52)=q by omega]
    · rw [mg_succ B52 _ B52_pos,mg_eq B52 s _ (by omega),ulp_eq B52 s _ (by omega),p2_def,Nat.add_mul q 1,Nat.one_mul,show B52 + (q - B52)=q by omega]
    · rw [hB] at hq ⊢
      omega
structure Ar (N D p:Nat):Prop where
  d:0 < D
  lo:mg B52 p * D≤N
  hi:N < mg B52 (p + 1) * D
def nrR (N D p:Nat):Nat:=if 2 * N < (mg B52 p + mg B52 (p + 1)) * D then p else if (mg B52 p + mg B52 (p + 1)) * D < 2 * N then p + 1 else if p % 2=0 then p else p + 1
theorem nr_is {N D p:Nat} (h:Ar N D p):IsRn B52 N D (nrR N D p):=by
  have hd:=h.d
  have hlo:=h.lo
  have hhi:=h.hi
  have up:=Nat.mul_le_mul_right D (Nat.le_of_lt (mg_lt_succ B52 (p + 1) B52_pos))
  have dn:∀ q,p=q + 1→mg B52 q * D < mg B52 p * D:=fun q e=>Nat.mul_lt_mul_of_pos_right (by rw [e];exact mg_lt_succ B52 q B52_pos) hd
  unfold nrR
  rw [Nat.add_mul]
  by_cases c1:2 * N < mg B52 p * D + mg B52 (p + 1) * D
  · rw [if_pos c1]
    refine ⟨by rw [Nat.add_mul];omega,fun e=>by rw [Nat.add_mul] at e;omega,fun q e=>?_,fun q e e2=>?_⟩
    · have:=dn q e;rw [Nat.add_mul];omega
    · have:=dn q e;rw [Nat.add_mul] at e2;omega
  · rw [if_neg c1]
    by_cases c2:mg B52 p * D + mg B52 (p + 1) * D < 2 * N
    · rw [if_pos c2]
      refine ⟨by rw [Nat.add_mul];omega,fun e=>by rw [Nat.add_mul] at e;omega,fun q e=>?_,fun q e e2=>?_⟩
      · have:q=p:=by omega
        subst this;rw [Nat.add_mul];omega
      · have:q=p:=by omega
        subst this;rw [Nat.add_mul] at e2;omega
    · rw [if_neg c2]
      by_cases c3:p % 2=0
      · rw [if_pos c3]
        refine ⟨by rw [Nat.add_mul];omega,fun _=>c3,fun q e=>?_,fun q e e2=>c3⟩
        have:=dn q e;rw [Nat.add_mul];omega
      · rw [if_neg c3]
        refine ⟨by rw [Nat.add_mul];omega,fun _=>by omega,fun q e=>?_,fun q e e2=>by omega⟩
        have:q=p:=by omega
        subst this;rw [Nat.add_mul];omega
theorem nr_or (N D p:Nat):nrR N D p=p ∨ nrR N D p=p + 1:=by unfold nrR;(repeat' split) <;> simp
theorem nr_exact {N D p:Nat} (h:Ar N D p) (e:N=mg B52 p * D):nrR N D p=p:=by
  have h1:=h.hi
  unfold nrR
  rw [if_pos (by rw [Nat.add_mul];omega)]
def inw (g:Bool) (m:Int):Prop:=m=3 ∨ (m=1∧g=false) ∨ (m=2∧g=true)
def outw (g:Bool) (m:Int):Prop:=(m=2∧g=false) ∨ (m=1∧g=true)
instance (g:Bool) (m:Int):Decidable (inw g m):=by unfold inw;exact inferInstance
instance (g:Bool) (m:Int):Decidable (outw g m):=by unfold outw;exact inferInstance
theorem inw_out {g:Bool} {m:Int} (h:outw g m):¬ inw g m:=by
  unfold outw at h;unfold inw
  cases g <;> simp at h ⊢ <;> omega
def hugeY (g:Bool) (m:Int):Nat:=if inw g m then wd g 9218868437227405311 else wd g 9218868437227405312
theorem step_out {g:Bool} {r:Nat} (h:r < 9218868437227405312):stepW (wd g r) (!g)=wd g (r + 1):=by
  unfold stepW
  rw [wd_rg (by omega),wd_neg (by omega),wd_eq,wd_eq]
  cases g
  · simp only [Bool.not_false,if_true,Bool.false_eq_true,if_false]
    split <;> omega
  · simp only [Bool.not_true,if_true,Bool.false_eq_true,if_false]
    split <;> omega
theorem step_in {g:Bool} {r:Nat} (h:r≤9218868437227405312) (h0:1≤r):stepW (wd g r) g=wd g (r - 1):=by
  unfold stepW
  rw [wd_rg (by omega),wd_neg (by omega),if_neg (by omega),wd_eq,wd_eq]
  cases g <;> simp <;> omega
theorem settle_huge {g:Bool} {o m:Int}:settleW (wd g 9218868437227405312) o m=hugeY g m:=by
  unfold settleW hugeY inw modeW
  rw [wd_rg (by decide),wd_neg (by decide),if_pos rfl]
  cases g
  · by_cases h3:m=3
    · subst h3;simp
    · by_cases h1:m=1
      · subst h1;simp
      · simp [h3,h1]
  · by_cases h3:m=3
    · subst h3;simp
    · by_cases h2:m=2
      · subst h2;simp
      · simp [h3,h2]
theorem settle_size {g:Bool} {r:Nat} {e m:Int} (hr:r < 9218868437227405312) (h0:e < 0→1≤r):settleW (wd g r) (if g=true then -e else e) m=wd g (if 0 < e∧outw g m then r + 1 else if e < 0∧inw g m then r - 1 else r):=by
  have so:=step_out (g:=g) hr
  have si:e < 0→stepW (wd g r) g=wd g (r - 1):=fun h=>step_in (by omega) (h0 h)
  unfold settleW modeW
  rw [wd_rg (by omega),wd_neg (by omega),if_neg (by omega)]
  unfold outw inw
  cases g
  · simp only [Bool.false_eq_true,if_false,and_false,or_false,and_true,Bool.not_false] at so si ⊢
    rcases Int.lt_trichotomy e 0 with h|h|h
    · have n1:¬ 0 < e:=by omega
      simp only [h,n1,true_and,false_and,or_false,if_false,decide_false]
      by_cases h3:m=3
      · subst h3;simp [si h]
      · simp only [h3,if_false,false_or]
        split
        · exact si h
        · rfl
    · subst h;simp
    · have n1:¬ e < 0:=by omega
      simp only [h,n1,true_and,false_and,false_or,if_false,decide_true]
      by_cases h3:m=3
      · subst h3;simp
      · simp only [h3,if_false]
        split
        · exact so
        · rfl
  · simp only [if_true,and_false,false_or,and_true,Bool.not_true,Bool.true_eq_false] at so si ⊢
    rcases Int.lt_trichotomy e 0 with h|h|h
    · have n1:¬ 0 < e:=by omega
      have n2:¬ -e < 0:=by omega
      have n3:0 < -e:=by omega
      simp only [h,n1,n2,n3,true_and,false_and,false_or,if_false,decide_true]
      by_cases h3:m=3
      · subst h3;simp [si h]
      · simp only [h3,if_false,false_or]
        split
        · exact si h
        · rfl
    · subst h;simp
    · have n1:¬ e < 0:=by omega
      have n2:-e < 0:=by omega
      have n3:¬ 0 < -e:=by omega
      simp only [h,n1,n2,n3,true_and,false_and,or_false,if_false,decide_false]
      by_cases h3:m=3
      · subst h3;simp
      · simp only [h3,if_false]
        split
        · exact so
        · rfl
def szR (g:Bool) (m:Int) (N D p:Nat):Nat:=if N=mg B52 p * D then p else if outw g m then p + 1 else if inw g m then p else nrR N D p
def eR (N D r:Nat):Int:=((N:Int) - ((mg B52 r * D:Nat):Int)).sign
def wordY (g:Bool) (m:Int) (r:Nat):Nat:=if r < 9218868437227405312 then wd g r else hugeY g m
theorem szR_settle {g:Bool} {m:Int} {N D p:Nat} (h:Ar N D p):wordY g m (szR g m N D p)=settleW (wd g (min (nrR N D p) 9218868437227405312)) (if g=true then -(eR N D (nrR N D p)) else eR N D (nrR N D p)) m:=by
  have h1:=h.lo
  have h2:=h.hi
  by_cases hI:nrR N D p < 9218868437227405312
  · rw [Nat.min_eq_left (Nat.le_of_lt hI)]
    by_cases hx:N=mg B52 p * D
    · have e1:=nr_exact h hx
      have e2:eR N D p=0:=by unfold eR;rw [← hx];simp
      have e3:szR g m N D p=p:=by unfold szR;rw [if_pos hx]
      rw [e3,e1]
      rw [e1] at hI
      rw [settle_size hI (by rw [e2];omega),e2,if_neg (fun h=>by omega),if_neg (fun h=>by omega)]
      unfold wordY
      rw [if_pos hI]
    · rcases nr_or N D p with e1|e1
      · have e2:eR N D p=1:=by unfold eR;exact Int.sign_eq_one_of_pos (by omega)
        rw [e1] at hI
        by_cases c1:outw g m
        · have c2:=inw_out c1
          have e3:szR g m N D p=p + 1:=by unfold szR;rw [if_neg hx,if_pos c1]
          rw [e3,e1,settle_size hI (by rw [e2];omega),e2,if_pos ⟨by decide,c1⟩]
          unfold wordY
          split
          · rfl
          · have:p + 1=9218868437227405312:=by omega
            rw [this];unfold hugeY;rw [if_neg c2]
        · have e3:szR g m N D p=p:=by
            unfold szR
            rw [if_neg hx,if_neg c1,e1]
            split <;> rfl
          rw [e3,e1,settle_size hI (by rw [e2];omega),e2,if_neg (fun h=>c1 h.2),if_neg (fun h=>by omega)]
          unfold wordY
          rw [if_pos hI]
      · have e2:eR N D (p + 1)=-1:=by unfold eR;exact Int.sign_eq_neg_one_of_neg (by omega)
        rw [e1] at hI
        by_cases c1:outw g m
        · have c2:=inw_out c1
          have e3:szR g m N D p=p + 1:=by unfold szR;rw [if_neg hx,if_pos c1]
          rw [e3,e1,settle_size hI (fun _=>by omega),e2,if_neg (fun h=>by omega),if_neg (fun h=>c2 h.2)]
          unfold wordY
          rw [if_pos hI]
        · by_cases c2:inw g m
          · have e3:szR g m N D p=p:=by unfold szR;rw [if_neg hx,if_neg c1,if_pos c2]
            rw [e3,e1,settle_size hI (fun _=>by omega),e2,if_neg (fun h=>by omega),if_pos ⟨by decide,c2⟩]
            unfold wordY
            rw [if_pos (by omega),Nat.add_sub_cancel]
          · have e3:szR g m N D p=p + 1:=by unfold szR;rw [if_neg hx,if_neg c1,if_neg c2,e1]
            rw [e3,e1,settle_size hI (fun _=>by omega),e2,if_neg (fun h=>by omega),if_neg (fun h=>c2 h.2)]
            unfold wordY
            rw [if_pos hI]
  · rw [Nat.min_eq_right (by omega),settle_huge]
    by_cases hx:N=mg B52 p * D
    · have e1:=nr_exact h hx
      unfold szR
      rw [if_pos hx]
      unfold wordY
      rw [if_neg (by omega)]
    · unfold szR
      rw [if_neg hx]
      have hor:=nr_or N D p
      by_cases c1:outw g m
      · rw [if_pos c1]
        unfold wordY
        rw [if_neg (by omega)]
      · rw [if_neg c1]
        by_cases c2:inw g m
        · rw [if_pos c2]
          unfold wordY
          split
          · have:p=9218868437227405311:=by omega
            rw [this];unfold hugeY;rw [if_pos c2]
          · rfl
        · rw [if_neg c2]
          unfold wordY
          rw [if_neg hI]
end Go.Proofs.YtmndoelimincdaaGreatDoor
namespace Go.Proofs.YtmndoelimincdaaGreatDoor
open Go Go.RowKit Nv GFl
open XBn
set_option maxRecDepth 100000
set_option linter.unusedSimpArgs false
theorem mgI:mg B52 9218868437227405312=p2 2098:=by
  rw [mgINF]
  have:B52=p2 52:=by decide +kernel
  rw [this,← p2_add]
theorem wordY_join {g:Bool} {fr r:Nat} {ex m:Int} {z:Nat} (h:IsJoin g fr ex z) (hr:mg B52 r=fr * p2 (ex + 1074).toNat) (hlt:fr * p2 (ex + 1074).toNat < p2 2098):z=wordY g m r:=by
  have h1:r < 9218868437227405312:=(mg_lt_iff B52_pos).1 (by rw [hr,mgI];exact hlt)
  unfold wordY
  rw [if_pos h1]
  have hl:r < 9223372036854775808:=by omega
  refine w64_ext h.w (wd_w hl) (h.s.trans (wd_neg hl).symm) ?_
  rw [wd_rg hl]
  exact mg_inj B52_pos (h.m.trans hr.symm)
theorem joinMax (g:Bool):IsJoin g 9007199254740991 971 (wd g 9218868437227405311) :=
  ⟨wd_w (by decide),wd_neg (by decide),by rw [wd_rg (by decide)];decide,by rw [wd_rg (by decide),mg_norm (by decide)];decide +kernel⟩
theorem okMax:joinOk 9007199254740991 971:=Or.inr ⟨by decide,by decide,by decide,by decide +kernel⟩
theorem next_max (g:Bool):nextF (wd g 9218868437227405311) (!g)=wd g 9218868437227405312:=by cases g <;> decide
theorem join_y {g:Bool} {fr:Nat} {ex:Int} {z:Nat} (hf:fr < 18446744073709551616) (he1:-9223372036854775808≤ex) (he2:ex≤9223372036854775807) (ok:joinOk fr ex) (hj:IsJoin g fr ex z) (w:World) :
    Calls Tryz.prog 123 #[.agg #[.bool g,.int .u64 (fr:Int),.int .i64 ex]] w fun e w'=>e=.returned (.tuple #[.float .f64 z,.bool true])∧Below w.heap.size w w':=by
  refine (join_c g fr ex hf he1 he2 w).mono ?_
  rintro e w' ⟨y,o,rfl,h1,h2,_,hb⟩
  have h:=h1.2 ok
  subst h
  rw [(h2 rfl).unique hj]
  exact ⟨rfl,hb⟩
set_option maxHeartbeats 4000000 in
theorem dfloat_z {W:World} (g:Bool) (x m:Int):Calls Tryz.prog 88 #[.bool g,.int .u64 0,.int .i64 x,.int .i8 m] W fun e w'=>e=.returned (.float .f64 (wordY g m 0))∧Below W.heap.size W w':=by
  have JC:Hid (∀ w,Calls Tryz.prog 123 #[.agg #[.bool g,.int .u64 0,.int .i64 0]] w fun e w'=>e=.returned (.tuple #[.float .f64 (wordY g m 0),.bool true])∧Below w.heap.size w w'):=Lib.hid (fun w=>join_y (fr:=0) (ex:=0) (by decide) (by decide) (by decide) (Or.inl ⟨rfl,rfl⟩) (isJoin_zero g) w)
  have LC:Hid (∀ w,Calls Tryz.prog 114 #[.int .u64 0] w fun e w'=>e=.returned (.int .i64 0)∧w'=w):=Lib.hid (fun w=>len64_c 0 (by decide) w)
  have B0:=Lib.hid (bl_alloc (Below.refl W.heap.size W) (.cells #[.bool g,.int .u64 0,.int .i64 0] 101))
  have K0:=Lib.hid (kb_new (w:=W) (o:=.cells #[.bool g,.int .u64 0,.int .i64 0] 101) (Below.refl _ _))
  have d0:=kb_cell K0.out (i:=0) rfl
  have d1:=kb_cell K0.out (i:=1) rfl
  have d2:=kb_cell K0.out (i:=2) rfl
  go_enter Tryz.func88,Tryz.ntmps88
  go_upto_region 5 with (fail)
  go_quiet ((go_at_call 114;exact Calls.quiet_of_same (LC.out _)))
  go_wp2_with (go_at_call 123;(with_reducible refine (JC.out _).mono ?_);rintro e w5 ⟨rfl,hb⟩;have HB:=Lib.hid (bl_then (bl_drewN B0.out _) hb);clear hb)
  go_ret
  exact ⟨rfl,HB.out⟩
set_option maxHeartbeats 8000000 in
theorem dfloat_c {W:World} (g:Bool) (s r:Nat) (x m:Int) (hs:s≤9007199254740992) (hx:-1074≤x) (hx2:x≤100000) (hr:mg B52 r=s * p2 (x + 1074).toNat) (hT:Tab W) :
    Calls Tryz.prog 88 #[.bool g,.int .u64 (s:Int),.int .i64 x,.int .i8 m] W fun e w'=>e=.returned (.float .f64 (wordY g m r))∧Below W.heap.size W w':=by
  rcases Nat.eq_zero_or_pos s with h0|h0
  · subst h0
    have:r=0:=mg_inj B52_pos (by rw [hr,Nat.zero_mul,mg_zero _ B52_pos])
    rw [this]
    exact dfloat_z g x m
  · obtain ⟨j,hj,hk⟩:=Lib.ctzFrom_spec 64 s h0 (by omega)
    have hct:Lib.ctz 64 s=Lib.ctzFrom 64 s:=by unfold Lib.ctz;rw [if_neg (by omega)]
    have TZ:Hid (∀ w,Below W.heap.size W w→Calls Tryz.prog 122 #[.int .u64 (s:Int)] w fun e w'=>e=.returned (.int .i64 (Lib.ctz 64 s))∧w'=w):=Lib.hid (fun w hb=>tz64_c s (by omega) w (hT.below hb))
    rw [hct] at TZ
    obtain ⟨k,hkk⟩:∃ k,Lib.ctzFrom 64 s=k:=⟨_,rfl⟩
    rw [hkk] at hj hk TZ
    obtain ⟨fr,hfr⟩:∃ f,2 * j + 1=f:=⟨_,rfl⟩
    rw [hfr] at hj
    have hfs:fr≤s:=by rw [hj];exact Nat.le_mul_of_pos_left _ (Nat.two_pow_pos _)
    have hf53:fr < 9007199254740992:=by
      rcases Nat.lt_or_ge fr 9007199254740992 with h|h
      · exact h
      · exfalso;omega
    have hdv:(s:Int) / 2 ^ min k 64=(fr:Int):=by
      rw [Nat.min_eq_left (by omega)]
      have h1:s / 2 ^ k=fr:=by rw [hj];exact Nat.mul_div_cancel_left _ (Nat.two_pow_pos _)
      rw [← h1,Int.natCast_ediv,Int.natCast_pow];rfl
    have hdn:s / 2 ^ k=fr:=by rw [hj];exact Nat.mul_div_cancel_left _ (Nat.two_pow_pos _)
    have hmul:s * p2 (x + 1074).toNat=fr * p2 (x + k + 1074).toNat:=by
      rw [show (x + (k:Int) + 1074).toNat=k + (x + 1074).toNat by omega,p2_add,hj,p2_def k]
      generalize p2 (x + 1074).toNat=q
      ac_rfl
    rw [hmul] at hr
    have LC:Hid (∀ w,Calls Tryz.prog 114 #[.int .u64 (fr:Int)] w fun e w'=>e=.returned (.int .i64 (bl fr))∧w'=w):=Lib.hid (fun w=>by
      have:=len64_c fr (by omega) w
      rwa [bitLen_bl (by omega)] at this)
    have hb53:bl fr≤53:=bl_le_of (by simpa using hf53)
    have hbe:=bl_lt fr
    have hbl:=bl_le (n:=fr) (by omega)
    have hb1:1≤bl fr:=by rw [bl_pos (by omega:fr ≠ 0)];omega
    have w1:wrap64 (x + (k:Int))=x + (k:Int):=by unfold wrap64;omega
    have w2:wrap64 ((bl fr:Int) + (x + (k:Int)))=(bl fr:Int) + (x + (k:Int)):=by clear w1;unfold wrap64;omega
    have k1:decide ((0:Int) < (s:Int))=true:=decide_eq_true (by omega)
    have k2:decide (0 < s)=true:=decide_eq_true h0
    have B0:=Lib.hid (bl_alloc (Below.refl W.heap.size W) (.cells #[.bool g,.int .u64 0,.int .i64 0] 101))
    have K0:=Lib.hid (kb_new (w:=W) (o:=.cells #[.bool g,.int .u64 0,.int .i64 0] 101) (Below.refl _ _))
    have d0:=kb_cell K0.out (i:=0) rfl
    have d1:=kb_cell K0.out (i:=1) rfl
    have d2:=kb_cell K0.out (i:=2) rfl
    have f0:=kb_frozen K0.out 0
    have f1:=kb_frozen K0.out 1
    have f2:=kb_frozen K0.out 2
    by_cases hfit:(bl fr:Int) + (x + (k:Int))≤1024
    · have hlt:fr * p2 (x + k + 1074).toNat < p2 2098:=by
        have h1:fr * p2 (x + k + 1074).toNat < 2 ^ bl fr * p2 (x + k + 1074).toNat:=Nat.mul_lt_mul_of_pos_right hbe (p2_pos _)
        rw [← p2_def,← p2_add] at h1
        exact Nat.lt_of_lt_of_le h1 (p2_le (by omega))
      have hok:joinOk fr (x + k):=Or.inr ⟨by omega,hf53,by omega,hlt⟩
      have JC:Hid (∀ w,Calls Tryz.prog 123 #[.agg #[.bool g,.int .u64 (fr:Int),.int .i64 (x + (k:Int))]] w fun e w'=>e=.returned (.tuple #[.float .f64 (wordY g m r),.bool true])∧Below w.heap.size w w'):=Lib.hid (fun w=>by
        refine (join_c g fr (x + k) (by omega) (by omega) (by omega) w).mono ?_
        rintro e w' ⟨y,o,rfl,h1,h2,_,hb⟩
        have h:=h1.2 hok
        subst h
        rw [wordY_join (m:=m) (h2 rfl) hr hlt]
        exact ⟨rfl,hb⟩)
      have k3:decide ((1024:Int) < (bl fr:Int) + (x + (k:Int)))=false:=decide_eq_false (by omega)
      obtain ⟨X,hX⟩:∃ X,x + (k:Int)=X:=⟨_,rfl⟩
      have wX:wrap64 (x + (k:Int))=X:=w1.trans hX
      rw [hX] at w2 k3 JC
      obtain ⟨b,hb⟩:∃ b,bl fr=b:=⟨_,rfl⟩
      rw [hb] at LC w2 k3
      clear hs hx hx2 hr hT h0 hj hk hct hkk hfr hfs hf53 hmul hb53 hbe hbl hb1 hfit hlt hok hX hb hdn w1
      go_enter Tryz.func88,Tryz.ntmps88
      go_upto_region 5 with (first
        | (go_at_call 122;(with_reducible refine (TZ.out _ B0.out).mono ?_);rintro e w' ⟨rfl,hw⟩;obtain rfl:=hw.symm;clear hw))
      simp only [hdv,wX]
      have B1:=Lib.hid (bl_alloc (Below.refl W.heap.size W) (.cells #[.bool g,.int .u64 (fr:Int),.int .i64 X] 101))
      have K1:=Lib.hid (kb_new (w:=W) (o:=.cells #[.bool g,.int .u64 (fr:Int),.int .i64 X] 101) (Below.refl _ _))
      obtain ⟨w3,hw3⟩:∃ w,W.alloc (.cells #[.bool g,.int .u64 (fr:Int),.int .i64 X] 101)=w:=⟨_,rfl⟩
      rw [hw3] at B1 K1
      simp only [hw3]
      clear hw3 d0 d1 d2 f0 f1 f2 K0 B0
      have e0:=kb_cell K1.out (i:=0) rfl
      have e1:=kb_cell K1.out (i:=1) rfl
      have e2:=kb_cell K1.out (i:=2) rfl
      go_quiet ((go_at_call 114;exact Calls.quiet_of_same (LC.out _)))
      go_wp2_with (go_at_call 123;(with_reducible refine (JC.out _).mono ?_);rintro e w5 ⟨rfl,hb⟩;have HB:=Lib.hid (bl_then (bl_drewN B1.out _) hb);clear hb)
      go_ret
      exact ⟨rfl,HB.out⟩
    · have hge:p2 2098≤fr * p2 (x + k + 1074).toNat:=by
        have h1:p2 (bl fr - 1) * p2 (x + k + 1074).toNat≤fr * p2 (x + k + 1074).toNat:=Nat.mul_le_mul_right _ (by rw [p2_def];exact hbl)
        rw [← p2_add] at h1
        exact Nat.le_trans (p2_le (by omega)) h1
      have hrI:¬ r < 9218868437227405312:=fun h=>by
        have h1:=(mg_lt_iff B52_pos).2 h
        rw [mgI,hr] at h1
        omega
      have JC:Hid (∀ w,Calls Tryz.prog 123 #[.agg #[.bool g,.int .u64 9007199254740991,.int .i64 971]] w fun e w'=>e=.returned (.tuple #[.float .f64 (wd g 9218868437227405311),.bool true])∧Below w.heap.size w w'):=Lib.hid (fun w=>join_y (fr:=9007199254740991) (by decide) (by decide) (by decide) okMax (joinMax g) w)
      have NX:Hid (∀ w,Calls Tryz.prog 124 #[.float .f64 (wd g 9218868437227405311),.bool (!g)] w fun e w'=>e=.returned (.float .f64 (wd g 9218868437227405312))∧w'=w):=Lib.hid (fun w=>by
        have:=next_c (wd g 9218868437227405311) (!g) (wd_w (by decide)) w
        rwa [next_max] at this)
      have k3:decide ((1024:Int) < (bl fr:Int) + (x + (k:Int)))=true:=decide_eq_true (by omega)
      obtain ⟨X,hX⟩:∃ X,x + (k:Int)=X:=⟨_,rfl⟩
      have wX:wrap64 (x + (k:Int))=X:=w1.trans hX
      rw [hX] at w2 k3
      obtain ⟨b,hb⟩:∃ b,bl fr=b:=⟨_,rfl⟩
      rw [hb] at LC w2 k3
      have j1:∃ b,(m == 1)=b:=⟨_,rfl⟩
      have j2:∃ b,(m == 2)=b:=⟨_,rfl⟩
      have j3:∃ b,(m == 3)=b:=⟨_,rfl⟩
      obtain ⟨b1,j1⟩:=j1
      obtain ⟨b2,j2⟩:=j2
      obtain ⟨b3,j3⟩:=j3
      have KEY:Hid ((if (b3 || ((b1 && !g) || (b2 && g)))=true then wd g 9218868437227405311 else wd g 9218868437227405312)=wordY g m r):=Lib.hid (by
        unfold wordY hugeY inw
        rw [if_neg hrI,← j1,← j2,← j3]
        simp only [Bool.or_eq_true,Bool.and_eq_true,beq_iff_eq,Bool.not_eq_true'])
      clear hs hx hx2 hr hT h0 hj hk hct hkk hfr hfs hf53 hmul hb53 hbe hbl hb1 hfit hge hrI hX hb hdn w1
      rw [← KEY.out]
      clear KEY
      go_enter Tryz.func88,Tryz.ntmps88
      go_upto_region 5 with (first
        | (go_at_call 122;(with_reducible refine (TZ.out _ B0.out).mono ?_);rintro e w' ⟨rfl,hw⟩;obtain rfl:=hw.symm;clear hw))
      simp only [hdv,wX]
      have B1:=Lib.hid (bl_alloc (Below.refl W.heap.size W) (.cells #[.bool g,.int .u64 (fr:Int),.int .i64 X] 101))
      have K1:=Lib.hid (kb_new (w:=W) (o:=.cells #[.bool g,.int .u64 (fr:Int),.int .i64 X] 101) (Below.refl _ _))
      obtain ⟨w3,hw3⟩:∃ w,W.alloc (.cells #[.bool g,.int .u64 (fr:Int),.int .i64 X] 101)=w:=⟨_,rfl⟩
      rw [hw3] at B1 K1
      simp only [hw3]
      clear hw3 d0 d1 d2 f0 f1 f2 K0 B0
      have e0:=kb_cell K1.out (i:=0) rfl
      have e1:=kb_cell K1.out (i:=1) rfl
      have e2:=kb_cell K1.out (i:=2) rfl
      have f0:=kb_frozen K1.out 0
      have f1:=kb_frozen K1.out 1
      have f2:=kb_frozen K1.out 2
      go_quiet ((go_at_call 114;exact Calls.quiet_of_same (LC.out _)))
      go_upto_region 7 with (fail)
      have K2:(w3.drewN nq).heap[W.heap.size]?=some (.cells #[.bool g,.int .u64 (fr:Int),.int .i64 X] 101 (0,0)):=K1.out
      have y2:=rw_setc (rw_setc K2 1 (.int .u64 9007199254740991)) 2 (.int .i64 971)
      have BS:Hid (Below W.heap.size W (((w3.drewN nq).setCell ⟨W.heap.size,1,none⟩ (.int .u64 9007199254740991)).setCell ⟨W.heap.size,2,none⟩ (.int .i64 971))):=Lib.hid (bl_set (bl_set (bl_drewN B1.out _) _ (Nat.le_refl _)) _ (Nat.le_refl _))
      obtain ⟨w4,hw4⟩:∃ w,((w3.drewN nq).setCell ⟨W.heap.size,1,none⟩ (.int .u64 9007199254740991)).setCell ⟨W.heap.size,2,none⟩ (.int .i64 971)=w:=⟨_,rfl⟩
      rw [hw4] at y2 BS
      simp only [hw4]
      clear hw4 e0 e1 e2 f0 f1 f2 K1 K2 B1
      have e0:=kb_cell y2 (i:=0) rfl
      have e1:=kb_cell y2 (i:=1) rfl
      have e2:=kb_cell y2 (i:=2) rfl
      cases g <;> cases b1 <;> cases b2 <;> cases b3
      all_goals
        go_wp2_with (first
          | (go_at_call 123;(with_reducible refine (JC.out _).mono ?_);rintro e w5 ⟨rfl,hb⟩;have HB:=Lib.hid (bl_then BS.out hb);clear hb)
          | (go_at_call 124;refine (NX.out _).mono ?_;rintro e w6 ⟨rfl,hw⟩;obtain rfl:=hw.symm;clear hw))
        go_ret
        exact ⟨rfl,HB.out⟩
end Go.Proofs.YtmndoelimincdaaGreatDoor
namespace Go.Proofs.YtmndoelimincdaaGreatDoor
open Go Go.RowKit Nv GFl
open Go.Proofs.YtmndoelimincdaaGreatDoorW.PrintWords (Kd)
open XBn
set_option maxRecDepth 100000
set_option linter.unusedSimpArgs false
def awayB (m:Int) (g:Bool) (half:Int) (odd:Bool):Bool:=if m=1 then g else if m=2 then !g else if m=3 then false else if half > 0 then true else if half=0 then odd else false
theorem away_f (m:Int) (g:Bool) (half:Int) (odd:Bool):dyad_away.f m g half odd=some (awayB m g half odd):=by
  unfold dyad_away.f awayB
  (repeat' split) <;> rfl
theorem round_up {q rest T f N D p s:Nat} {g:Bool} {m:Int} (hf:0 < f) (hN:N=(q * (2 * T) + rest) * f) (hD:p2 s * D=2 * T * f) (hd:0 < D) (hp:mg B52 p=q * p2 s) (hp1:mg B52 (p + 1)=(q + 1) * p2 s) (par:p % 2=q % 2) (hr:rest < 2 * T) :
    Ar N D p∧szR g m N D p=if (decide (0 < rest) && awayB m g (cmpZ (rest:Int) (T:Int)) (decide (q % 2=1)))=true then p + 1 else p:=by
  have a:mg B52 p * D=q * (2 * T * f):=by rw [hp,Nat.mul_assoc,hD]
  have b:mg B52 (p + 1) * D=q * (2 * T * f) + 2 * T * f:=by rw [hp1,Nat.mul_assoc,hD,Nat.add_mul,Nat.one_mul]
  have n:N=q * (2 * T * f) + rest * f:=by rw [hN,Nat.add_mul,Nat.mul_assoc]
  have r1:rest * f < 2 * T * f:=Nat.mul_lt_mul_of_pos_right hr hf
  have e:2 * T * f=2 * (T * f):=Nat.mul_assoc ..
  have rz:rest * f=0 ↔ rest=0:=by
    constructor
    · intro h
      rcases Nat.mul_eq_zero.1 h with h|h
      · exact h
      · omega
    · rintro rfl;simp
  have rl:rest * f < T * f ↔ rest < T:=Nat.mul_lt_mul_right hf
  have rg':T * f < rest * f ↔ T < rest:=Nat.mul_lt_mul_right hf
  have ar:Ar N D p:=⟨hd,by rw [a,n];omega,by rw [b,n];omega⟩
  refine ⟨ar,?_⟩
  generalize q * (2 * T * f)=A at *
  generalize 2 * T * f=B at *
  generalize T * f=C at *
  generalize rest * f=R at *
  unfold szR
  rw [a]
  by_cases h0:rest=0
  · rw [if_pos (by omega),decide_eq_false (show ¬ 0 < rest by omega)]
    rfl
  · rw [if_neg (by omega),decide_eq_true (show 0 < rest by omega),Bool.true_and]
    unfold awayB
    by_cases c1:m=1
    · rw [if_pos c1]
      subst c1
      cases g
      · have i1:¬ outw false 1:=by unfold outw;simp
        have i2:inw false 1:=by unfold inw;simp
        rw [if_neg i1,if_pos i2];rfl
      · have i1:outw true 1:=by unfold outw;simp
        rw [if_pos i1];rfl
    · rw [if_neg c1]
      by_cases c2:m=2
      · rw [if_pos c2]
        subst c2
        cases g
        · have i1:outw false 2:=by unfold outw;simp
          rw [if_pos i1];rfl
        · have i1:¬ outw true 2:=by unfold outw;simp
          have i2:inw true 2:=by unfold inw;simp
          rw [if_neg i1,if_pos i2];rfl
      · rw [if_neg c2]
        have i1:¬ outw g m:=by unfold outw;omega
        rw [if_neg i1]
        by_cases c3:m=3
        · have i2:inw g m:=by unfold inw;exact Or.inl c3
          rw [if_pos c3,if_pos i2];rfl
        · have i2:¬ inw g m:=by unfold inw;omega
          rw [if_neg c3,if_neg i2]
          unfold nrR
          rw [Nat.add_mul,a,b]
          unfold cmpZ
          rcases Nat.lt_trichotomy rest T with h|h|h
          · have:=rl.2 h
            have e1:(if (rest:Int) < (T:Int) then (-1:Int) else if (T:Int) < (rest:Int) then 1 else 0)=-1:=if_pos (by omega)
            rw [e1,if_pos (by omega)]
            simp
          · have:R=C:=by
              have h1:=mt rl.1 (by omega:¬ rest < T)
              have h2:=mt rg'.1 (by omega:¬ T < rest)
              omega
            have e1:(if (rest:Int) < (T:Int) then (-1:Int) else if (T:Int) < (rest:Int) then 1 else 0)=0:=by rw [if_neg (by omega),if_neg (by omega)]
            rw [e1,if_neg (by omega),if_neg (by omega)]
            simp only [gt_iff_lt,Int.lt_irrefl,if_false,if_true]
            by_cases ho:q % 2=1
            · rw [decide_eq_true ho,if_neg (by omega),if_pos rfl]
            · rw [decide_eq_false ho,if_pos (by omega),if_neg (by simp)]
          · have:=rg'.2 h
            have e1:(if (rest:Int) < (T:Int) then (-1:Int) else if (T:Int) < (rest:Int) then 1 else 0)=1:=by rw [if_neg (by omega),if_pos (by omega)]
            rw [e1,if_neg (by omega),if_pos (by omega)]
            simp
def RndPost (g:Bool) (m:Nat) (x mode:Int) (w:World) (e:Ending) (w':World):Prop:=∃ p,Ar (m * p2 (x + 1074).toNat) (p2 (-1074 - x).toNat) p∧e=.returned (.tuple #[.float .f64 (wordY g mode (szR g mode (m * p2 (x + 1074).toNat) (p2 (-1074 - x).toNat) p)),.int .i64 0])∧Below w.heap.size w w'
theorem round_ex {m:Nat} {x L:Int} (hL:-1074≤L) (hx:L≤x) (hb:L + 53 ≥ x + bl m):∃ p,Ar (m * p2 (x + 1074).toNat) (p2 (-1074 - x).toNat) p∧mg B52 p=m * 2 ^ (x - L).toNat * p2 (L + 1074).toNat∧m * 2 ^ (x - L).toNat < 9007199254740992∧∀ g mode,szR g mode (m * p2 (x + 1074).toNat) (p2 (-1074 - x).toNat) p=p:=by
  have h1:m * 2 ^ (x - L).toNat < 2 ^ 53:=by
    have h2:m * 2 ^ (x - L).toNat < 2 ^ bl m * 2 ^ (x - L).toNat:=Nat.mul_lt_mul_of_pos_right (bl_lt m) (Nat.two_pow_pos _)
    rw [← Nat.pow_add] at h2
    exact Nat.lt_of_lt_of_le h2 (Nat.pow_le_pow_right (by decide) (by omega))
  have h3:(2:Nat) ^ 53=9007199254740992:=by decide
  rw [h3] at h1
  obtain ⟨p,hp⟩:=rep (B:=B52) (m * 2 ^ (x - L).toNat) (L + 1074).toNat (by unfold B52;omega)
  have hN:m * p2 (x + 1074).toNat=mg B52 p * p2 (-1074 - x).toNat:=by
    rw [hp,show (-1074 - x).toNat=0 by omega,p2_zero,Nat.mul_one,← p2_def,Nat.mul_assoc,← p2_add]
    congr 2;omega
  refine ⟨p,⟨p2_pos _,Nat.le_of_eq hN.symm,?_⟩,hp,h1,fun g mode=>?_⟩
  · rw [hN];exact Nat.mul_lt_mul_of_pos_right (mg_lt_succ B52 p B52_pos) (p2_pos _)
  · unfold szR;rw [if_pos hN]
theorem round_cut {m c:Nat} {x L:Int} (hL:L=max (x + bl m - 53) (-1074)) (hc:L - x=(c:Int) + 1):∃ p,m / 2 ^ (c + 1) < 9007199254740992∧Ar (m * p2 (x + 1074).toNat) (p2 (-1074 - x).toNat) p∧mg B52 p=m / 2 ^ (c + 1) * p2 (L + 1074).toNat∧mg B52 (p + 1)=(m / 2 ^ (c + 1) + 1) * p2 (L + 1074).toNat ∧
    ∀ g mode,szR g mode (m * p2 (x + 1074).toNat) (p2 (-1074 - x).toNat) p=if (decide (0 < m % 2 ^ (c + 1)) && awayB mode g (cmpZ ((m % 2 ^ (c + 1):Nat):Int) ((2 ^ c:Nat):Int)) (decide (m / 2 ^ (c + 1) % 2=1)))=true then p + 1 else p:=by
  have q1:m / 2 ^ (c + 1) < 2 ^ 53:=by
    rw [Nat.div_lt_iff_lt_mul (Nat.two_pow_pos _),← Nat.pow_add]
    exact Nat.lt_of_lt_of_le (bl_lt m) (Nat.pow_le_pow_right (by decide) (by omega))
  have h3:(2:Nat) ^ 53=9007199254740992:=by decide
  rw [h3] at q1
  have q2:(L + 1074).toNat=0 ∨ 4503599627370496≤m / 2 ^ (c + 1):=by
    by_cases hl:L=-1074
    · left;omega
    · right
      have hm0:m ≠ 0:=fun e=>by rw [e,bl_zero] at hL;omega
      have h4:(4503599627370496:Nat)=2 ^ 52:=by decide
      rw [h4,Nat.le_div_iff_mul_le (Nat.two_pow_pos _),← Nat.pow_add]
      have hb1:1≤bl m:=by rw [bl_pos hm0];omega
      exact Nat.le_trans (Nat.pow_le_pow_right (by decide) (by omega)) (bl_le hm0)
  obtain ⟨p,hp,hp1,par⟩:=rung_at q1 q2
  have key:∀ g mode,_:=fun g mode=>round_up (g:=g) (m:=mode) (q:=m / 2 ^ (c + 1)) (rest:=m % 2 ^ (c + 1)) (T:=2 ^ c) (f:=p2 (x + 1074).toNat) (N:=m * p2 (x + 1074).toNat) (D:=p2 (-1074 - x).toNat) (p2_pos _) (by
      congr 1
      rw [show 2 * 2 ^ c=2 ^ (c + 1) by rw [Nat.pow_succ,Nat.mul_comm],Nat.mul_comm (m / 2 ^ (c + 1))]
      exact (Nat.div_add_mod m _).symm) (by
      rw [show 2 * 2 ^ c=p2 (c + 1) by rw [p2_def,Nat.pow_succ,Nat.mul_comm],← p2_add,← p2_add]
      congr 1;omega) (p2_pos _) hp hp1 par (by
      rw [show 2 * 2 ^ c=2 ^ (c + 1) by rw [Nat.pow_succ,Nat.mul_comm]]
      exact Nat.mod_lt _ (Nat.two_pow_pos _))
  exact ⟨p,q1,(key true 0).1,hp,hp1,fun g mode=>(key g mode).2⟩
end Go.Proofs.YtmndoelimincdaaGreatDoor
namespace Go.Proofs.YtmndoelimincdaaGreatDoor
open Go Go.RowKit Nv GFl
open Go.Proofs.YtmndoelimincdaaGreatDoorW.PrintWords (Kd)
open XBn
set_option maxRecDepth 100000
set_option linter.unusedSimpArgs false
theorem sg_abs2 (g:Bool) (m:Nat):(sg g m).natAbs=m:=by cases g <;> simp [sg]
set_option maxHeartbeats 8000000 in
theorem dround_c {k:Nat} {g:Bool} {m:Nat} {x:Int} {d:Value} {W:World} (h:Dy W d g m x) (r:DR k g m x) (h0:m ≠ 0) (hk:k≤200) (hx:-13000≤x) (hx2:x≤13000) (mode:Int) (hT:Tab W) :
    Calls Tryz.prog 46 #[d,.int .i8 mode] W (RndPost g m x mode W):=by
  have RC:Hid (∀ w,Below W.heap.size W w→Calls Tryz.prog 76 #[d] w fun e w'=>e=.returned (.bool true)∧Below w.heap.size w w'):=Lib.hid (fun w hb=>yright_c (h.below hb) r)
  have WC:Hid (∀ w,Below W.heap.size W w→Calls Tryz.prog 77 #[d] w fun e w'=>∃ b,e=.returned (pt b)∧w.heap.size≤b∧IntAt w' b (sg g m)∧Below w.heap.size w w'):=Lib.hid (fun w hb=>ywhole_c (h.below hb) r)
  have TC:Hid (∀ w,Below W.heap.size W w→Calls Tryz.prog 79 #[d] w fun e w'=>e=.returned (.int .i64 (x + bl m))∧Below w.heap.size w w'):=Lib.hid (fun w hb=>ytop_c (h.below hb) r h0)
  have sV:=r.sm
  have hml:=r.l
  have hbl:bl m≤64 * k:=bl_le_of r.l
  have FC:Hid (∀ w (s r:Nat) (L:Int),Below W.heap.size W w→s≤9007199254740992→-1074≤L→L≤100000→mg B52 r=s * p2 (L + 1074).toNat→Calls Tryz.prog 88 #[.bool g,.int .u64 (s:Int),.int .i64 L,.int .i8 mode] w fun e w'=>e=.returned (.float .f64 (wordY g mode r))∧Below w.heap.size w w'):=Lib.hid (fun w s r L hb h1 h2 h3 h4=>dfloat_c g s r L mode h1 h2 h3 h4 (hT.below hb))
  have n0:((((lbs m).length:Nat):Int) == 0)=false:=by rw [beq_eq_false_iff_ne];have:=mt (lbs_nil (m:=m)).1 h0;omega
  obtain ⟨A,c,rfl,_⟩:=h
  obtain ⟨n,hn⟩:∃ n,(lbs m).length=n:=⟨_,rfl⟩
  rw [hn] at RC WC TC n0 ⊢
  clear hn r hT
  have B0:=Lib.hid (bl_alloc (Below.refl W.heap.size W) (.cells #[.bool g,.slice A n c,.int .i64 x] 48))
  have K0:=Lib.hid (kb_new (w:=W) (o:=.cells #[.bool g,.slice A n c,.int .i64 x] 48) (Below.refl _ _))
  have d0:=kb_cell K0.out (i:=0) rfl
  have d1:=kb_cell K0.out (i:=1) rfl
  have d2:=kb_cell K0.out (i:=2) rfl
  have aV:(sg g m).natAbs=m:=sg_abs2 g m
  have cA:Hid (∀ w b,IntAt w b (sg g m)→Calls Tryz.prog 78 #[pt b,pt b] w (GPost b (m:Int) w)):=Lib.hid (fun w b h=>by have:=iabs_c h h (by rw [aV];exact sV);rwa [aV] at this)
  obtain ⟨u,hu⟩:∃ u:Int,sg g m=u:=⟨_,rfl⟩
  rw [hu] at WC cA
  obtain ⟨T,hTt⟩:∃ T,x + (bl m:Int)=T:=⟨_,rfl⟩
  have hTb:-13000≤T∧T≤30000:=by omega
  obtain ⟨L,hL⟩:∃ L,max (T - 53) (-1074)=L:=⟨_,rfl⟩
  have hL1:-1074≤L:=by omega
  have hL2:L≤100000:=by omega
  have t1:wrap64 (T - 53)=T - 53:=by unfold wrap64;omega
  have t2:wrap64 (L - x)=L - x:=by clear t1;unfold wrap64;omega
  rw [hTt] at TC
  by_cases hcut:L≤x
  · obtain ⟨p,ar,hp,hq,hs⟩:=round_ex (m:=m) hL1 hcut (by omega)
    have hs:=hs g mode
    obtain ⟨e,he⟩:∃ e,(x - L).toNat=e:=⟨_,rfl⟩
    rw [he] at hp hq
    have l1:decide (L - x≤0)=true:=decide_eq_true (by omega)
    have l2:wrap64 (-(L - x))=(e:Int):=by clear t1 t2;unfold wrap64;omega
    have l3:IntKind.u64.wrap (e:Int)=(e:Int):=by clear t1 t2 l2;rw [IntKind.wrap_u64];omega
    have l4:wrap64 (x - L)=(e:Int):=by clear t1 t2 l2 l3;unfold wrap64;omega
    have cL:Hid (∀ w z b u,IntAt w z u→IntAt w b (m:Int)→Calls Tryz.prog 80 #[pt z,pt b,.int .u64 (e:Int)] w (GPost z ((m * 2 ^ e:Nat):Int) w)):=Lib.hid (fun w z b u h1 h2=>by
      have:=lsh_c h1 h2 e (by omega) (by simpa using sV)
      have e1:(m:Int) * 2 ^ e=((m * 2 ^ e:Nat):Int):=by push_cast;rfl
      rwa [e1] at this)
    have cU:Hid (∀ w z,IntAt w z ((m * 2 ^ e:Nat):Int)→Calls Tryz.prog 81 #[pt z] w fun e' w'=>e'=.returned (.int .u64 ((m * 2 ^ e:Nat):Int))∧w=w'):=Lib.hid (fun w z h=>by
      have:=u64_c h
      rwa [Int.natAbs_natCast,Nat.mod_eq_of_lt (by omega)] at this)
    obtain ⟨q,hqq⟩:∃ q,m * 2 ^ e=q:=⟨_,rfl⟩
    rw [hqq] at hp hq cL cU
    have FD:Hid (∀ w,Below W.heap.size W w→Calls Tryz.prog 88 #[.bool g,.int .u64 (q:Int),.int .i64 L,.int .i8 mode] w fun e w'=>e=.returned (.float .f64 (wordY g mode p))∧Below w.heap.size w w'):=Lib.hid (fun w hb=>FC.out w q p L hb (by omega) hL1 hL2 hp)
    have AR:=Lib.hid ar
    have HS:=Lib.hid hs
    clear FC ar hs hp hq hcut hL1 hL2 hTb hTt hu aV sV hml hbl h0 hk hx hx2 hqq he
    go_enter Tryz.func46,Tryz.ntmps46
    go_upto_region 6 with (first
      | (go_at_call 76;(with_reducible refine (RC.out _ B0.out).mono ?_);rintro e w1 ⟨rfl,hb⟩;have B0:=Lib.hid (bl_then B0.out hb);have K0:=Lib.hid (kb_keep hb K0.out);clear d0 d1 d2;have d0:=kb_cell K0.out (i:=0) rfl;have d1:=kb_cell K0.out (i:=1) rfl;have d2:=kb_cell K0.out (i:=2) rfl;clear hb)
      | (go_at_call 77;(with_reducible refine (WC.out _ B0.out).mono ?_);rintro e w2 ⟨b,rfl,hbs,hI,hb⟩;have I2:=Lib.hid hI;have NB:=Lib.hid (Nat.lt_of_lt_of_le (kb_lt K0.out) hbs);have B2:=Lib.hid (bl_then B0.out hb);have K2:=Lib.hid (kb_keep hb K0.out);clear hb hI hbs))
    go_upto_region 11 with (first
      | (go_at_call 78;(with_reducible refine (cA.out _ _ I2.out).mono ?_);rintro e w3 ⟨rfl,hI,hz⟩;have I3:=Lib.hid hI;have B3:=Lib.hid (Bz.below B2.out hz B2.out.size (Nat.le_of_lt NB.out));have K3:=Lib.hid ((hz.block W.heap.size (kb_lt K2.out) (Nat.ne_of_lt NB.out)).trans K2.out);have d0:=kb_cell K3.out (i:=0) rfl;have d1:=kb_cell K3.out (i:=1) rfl;have d2:=kb_cell K3.out (i:=2) rfl;clear hI hz)
      | (go_at_call 79;(with_reducible refine (TC.out _ B3.out).mono ?_);rintro e w4 ⟨rfl,hb⟩;have I4:=Lib.hid (I3.out.below hb);have B4:=Lib.hid (bl_then B3.out hb);have K4:=Lib.hid (kb_keep hb K3.out);clear d0 d1 d2;have d0:=kb_cell K4.out (i:=0) rfl;have d1:=kb_cell K4.out (i:=1) rfl;have d2:=kb_cell K4.out (i:=2) rfl;clear hb))
    go_wp2_with (first
      | (go_at_call 80;(with_reducible refine (cL.out _ _ _ _ (IntAt.zero w4) (I4.out.alloc _)).mono ?_);rintro e w5 ⟨rfl,hI,hz⟩;have Q5:=Lib.hid hI;have B5:=Lib.hid (Bz.below (bl_alloc B4.out _) hz (Nat.le_trans B4.out.size (by simp)) B4.out.size);have K5:=Lib.hid ((hz.block W.heap.size (kb_lt (kb_alloc (o':=nilI) K4.out)) (Nat.ne_of_lt (kb_lt K4.out))).trans (kb_alloc (o':=nilI) K4.out));clear d0 d1 d2;have d0:=kb_cell K5.out (i:=0) rfl;have d1:=kb_cell K5.out (i:=1) rfl;have d2:=kb_cell K5.out (i:=2) rfl;clear hI hz)
      | (go_at_call 81;(with_reducible refine (cU.out _ _ Q5.out).mono ?_);rintro e w6 ⟨rfl,rfl⟩)
      | (go_at_call 88;(with_reducible refine (FD.out _ B5.out).mono ?_);rintro e w7 ⟨rfl,hb⟩;have B7:=Lib.hid (bl_then B5.out hb);clear hb))
    go_ret2
    exact ⟨p,AR.out,by first|(rw [HS.out];done)|(rw [HS.out];rfl),B7.out⟩
  · obtain ⟨c',hc'⟩:∃ c':Nat,L - x=(c':Int) + 1:=⟨(L - x - 1).toNat,by omega⟩
    obtain ⟨p,hq,ar,hp,hp1,hs⟩:=round_cut (m:=m) (c:=c') (x:=x) (L:=L) (by rw [← hL,← hTt]) hc'
    have hs:=hs g mode
    have hcb:c' + 1≤43000:=by omega
    obtain ⟨Z,hZ⟩:∃ Z:Int,(c':Int) + 1=Z:=⟨_,rfl⟩
    obtain ⟨Y,hY⟩:∃ Y:Int,(c':Int)=Y:=⟨_,rfl⟩
    replace t2:wrap64 (L - x)=Z:=t2.trans (hc'.trans hZ)
    have l1:decide (Z≤0)=false:=decide_eq_false (by omega)
    have l3:IntKind.u64.wrap Z=Z:=by clear t1 t2;rw [IntKind.wrap_u64];omega
    have l4:wrap64 (Z - 1)=Y:=by clear t1 t2 l3;unfold wrap64;omega
    have l5:IntKind.u64.wrap Y=Y:=by clear t1 t2 l3 l4;rw [IntKind.wrap_u64];omega
    have dm:=Nat.div_add_mod m (2 ^ (c' + 1))
    have eq1:m / 2 ^ (c' + 1) * 2 ^ (c' + 1)≤m:=Nat.div_mul_le_self ..
    have cR:Hid (∀ w z b u,IntAt w z u→IntAt w b (m:Int)→Calls Tryz.prog 82 #[pt z,pt b,.int .u64 Z] w (GPost z ((m / 2 ^ (c' + 1):Nat):Int) w)):=Lib.hid (fun w z b u h1 h2=>by
      have:=rsh_c h1 h2 (by simpa using sV) (Int.natCast_nonneg _) (c' + 1) (by omega)
      rwa [Int.toNat_natCast,show ((c' + 1:Nat):Int)=Z by omega] at this)
    obtain ⟨q,hqq⟩:∃ q,m / 2 ^ (c' + 1)=q:=⟨_,rfl⟩
    obtain ⟨rest,hrr⟩:∃ q,m % 2 ^ (c' + 1)=q:=⟨_,rfl⟩
    rw [hqq] at hq hp hp1 hs cR dm eq1
    rw [hrr] at hs dm
    obtain ⟨T2,hT2⟩:∃ q,2 ^ c'=q:=⟨_,rfl⟩
    have sq:Sm ((q:Int).natAbs:Int):=by rw [Int.natAbs_natCast];exact sm_le (k:=k) (Nat.le_trans (Nat.le_mul_of_pos_right _ (Nat.two_pow_pos (c' + 1))) eq1) hml (by omega)
    have sq2:Sm (((q * 2 ^ (c' + 1):Nat):Int).natAbs:Int):=by rw [Int.natAbs_natCast];exact sm_le (k:=k) eq1 hml (by omega)
    have sr:Sm ((rest:Int).natAbs:Int):=by rw [Int.natAbs_natCast];exact sm_le (k:=k) (by rw [← hrr];exact Nat.mod_le _ _) hml (by omega)
    have s1:Sm ((1:Int).natAbs:Int):=sm_pw (x:=1) (k:=1) (by decide) (by decide)
    have cU:Hid (∀ w z,IntAt w z (q:Int)→Calls Tryz.prog 81 #[pt z] w fun e' w'=>e'=.returned (.int .u64 (q:Int))∧w=w'):=Lib.hid (fun w z h=>by
      have:=u64_c h
      rwa [Int.natAbs_natCast,Nat.mod_eq_of_lt (by omega)] at this)
    have cL:Hid (∀ w z,IntAt w z (q:Int)→Calls Tryz.prog 80 #[pt z,pt z,.int .u64 Z] w (GPost z ((q * 2 ^ (c' + 1):Nat):Int) w)):=Lib.hid (fun w z h=>by
      have:=lsh_c h h (c' + 1) (by omega) sq
      rw [show ((c' + 1:Nat):Int)=Z by omega] at this
      have e1:(q:Int) * 2 ^ (c' + 1)=((q * 2 ^ (c' + 1):Nat):Int):=by push_cast;rfl
      rwa [e1] at this)
    have cS:Hid (∀ w b y,IntAt w b (m:Int)→IntAt w y ((q * 2 ^ (c' + 1):Nat):Int)→Calls Tryz.prog 83 #[pt b,pt b,pt y] w (GPost b (rest:Int) w)):=Lib.hid (fun w b y h1 h2=>by
      have:=sub_c h1 h1 h2 (by simpa using sV) sq2
      have e1:(m:Int) - ((q * 2 ^ (c' + 1):Nat):Int)=(rest:Int):=by rw [← dm,Nat.mul_comm (2 ^ (c' + 1)) q];omega
      rwa [e1] at this)
    have cN:Hid (∀ w,Calls Tryz.prog 85 #[.int .i64 1] w (NPost 1 w)):=Lib.hid (fun w=>newInt_c 1 (by decide) (by decide) w)
    have cM:Hid (∀ w z u y,IntAt w z u→IntAt w y 1→Calls Tryz.prog 80 #[pt z,pt y,.int .u64 Y] w (GPost z (T2:Int) w)):=Lib.hid (fun w z u y h1 h2=>by
      have:=lsh_c h1 h2 c' (by omega) s1
      rw [hY] at this
      have e1:(1:Int) * 2 ^ c'=(T2:Int):=by rw [← hT2];push_cast;simp
      rwa [e1] at this)
    have cC:Hid (∀ w b y,IntAt w b (rest:Int)→IntAt w y (T2:Int)→Calls Tryz.prog 84 #[pt b,pt y] w fun e w'=>e=.returned (.int .i64 (cmpZ (rest:Int) (T2:Int)))∧Below w.heap.size w w'):=Lib.hid (fun w b y h1 h2=>icmp_c h1 h2 sr)
    have cG:Hid (∀ w b,IntAt w b (rest:Int)→Calls Tryz.prog 86 #[pt b] w fun e w'=>e=.returned (.int .i64 (sgnI (rest:Int)))∧w=w'):=Lib.hid (fun w b h=>isign_c h)
    rw [hT2] at hs
    have AW:Hid (∀ w,Calls Tryz.prog 87 #[.int .i8 mode,.bool g,.int .i64 (cmpZ (rest:Int) (T2:Int)),.bool (decide (q % 2=1))] w fun e w'=>e=.returned (.bool (awayB mode g (cmpZ (rest:Int) (T2:Int)) (decide (q % 2=1))))∧Below w.heap.size w w'):=Lib.hid (fun w=>(dyad_away.calls mode g _ _ _ w (away_f mode g _ _)).mono fun e w' ⟨h1,h2⟩=>⟨h1,by first|exact h2.below|exact h2⟩)
    have bq:(bits BinOp.and IntKind.u64 (q:Int) 1 == 1)=decide (q % 2=1):=by
      rw [u64_low1 q (by omega),Bool.eq_iff_iff,beq_iff_eq,decide_eq_true_eq];omega
    have gq:decide (0 < sgnI (rest:Int))=decide (0 < rest):=by
      unfold sgnI
      rcases Nat.eq_zero_or_pos rest with h|h
      · subst h;decide
      · rw [if_neg (by omega),if_pos (by omega),decide_eq_true h];decide
    obtain ⟨q1,hq1⟩:∃ q1,q + 1=q1:=⟨_,rfl⟩
    have wq:IntKind.u64.wrap ((q:Int) + 1)=(q1:Int):=by clear t1 t2 l3 l4 l5;rw [IntKind.wrap_u64];omega
    have F0:Hid (∀ w,Below W.heap.size W w→Calls Tryz.prog 88 #[.bool g,.int .u64 (q:Int),.int .i64 L,.int .i8 mode] w fun e w'=>e=.returned (.float .f64 (wordY g mode p))∧Below w.heap.size w w'):=Lib.hid (fun w hb=>FC.out w q p L hb (by omega) hL1 hL2 hp)
    have F1:Hid (∀ w,Below W.heap.size W w→Calls Tryz.prog 88 #[.bool g,.int .u64 (q1:Int),.int .i64 L,.int .i8 mode] w fun e w'=>e=.returned (.float .f64 (wordY g mode (p + 1)))∧Below w.heap.size w w'):=Lib.hid (fun w hb=>FC.out w q1 (p + 1) L hb (by omega) hL1 hL2 (by rw [← hq1];exact hp1))
    have AR:=Lib.hid ar
    have HS:=Lib.hid hs
    obtain ⟨half,hha⟩:∃ v,cmpZ (rest:Int) (T2:Int)=v:=⟨_,rfl⟩
    obtain ⟨odd,hod⟩:∃ v,decide (q % 2=1)=v:=⟨_,rfl⟩
    obtain ⟨bp,hbp⟩:∃ v,decide (0 < rest)=v:=⟨_,rfl⟩
    obtain ⟨sr',hsr⟩:∃ v,sgnI (rest:Int)=v:=⟨_,rfl⟩
    rw [hha] at cC AW HS
    rw [hod] at AW HS bq
    rw [hbp] at HS gq
    rw [hsr] at cG gq
    obtain ⟨aw,haw⟩:∃ v,awayB mode g half odd=v:=⟨_,rfl⟩
    rw [haw] at AW HS
    clear FC ar hs hp hp1 hq hcut hL1 hL2 hTb hTt hu aV sV hml hbl h0 hk hx hx2 hqq hrr hT2 dm eq1 sq sq2 sr s1 hha hod hbp hsr haw hcb hq1 hZ hY hc'
    cases bp <;> cases aw
    all_goals
      go_enter Tryz.func46,Tryz.ntmps46
      go_upto_region 6 with (first
        | (go_at_call 76;(with_reducible refine (RC.out _ B0.out).mono ?_);rintro e w1 ⟨rfl,hb⟩;have B0:=Lib.hid (bl_then B0.out hb);have K0:=Lib.hid (kb_keep hb K0.out);clear d0 d1 d2;have d0:=kb_cell K0.out (i:=0) rfl;have d1:=kb_cell K0.out (i:=1) rfl;have d2:=kb_cell K0.out (i:=2) rfl;clear hb)
        | (go_at_call 77;(with_reducible refine (WC.out _ B0.out).mono ?_);rintro e w2 ⟨b,rfl,hbs,hI,hb⟩;have I2:=Lib.hid hI;have NB:=Lib.hid (Nat.lt_of_lt_of_le (kb_lt K0.out) hbs);have B2:=Lib.hid (bl_then B0.out hb);have K2:=Lib.hid (kb_keep hb K0.out);clear hb hI hbs))
      go_upto_region 12 with (first
        | (go_at_call 78;(with_reducible refine (cA.out _ _ I2.out).mono ?_);rintro e w3 ⟨rfl,hI,hz⟩;have I3:=Lib.hid hI;have B3:=Lib.hid (Bz.below B2.out hz B2.out.size (Nat.le_of_lt NB.out));have K3:=Lib.hid ((hz.block W.heap.size (kb_lt K2.out) (Nat.ne_of_lt NB.out)).trans K2.out);have d0:=kb_cell K3.out (i:=0) rfl;have d1:=kb_cell K3.out (i:=1) rfl;have d2:=kb_cell K3.out (i:=2) rfl;clear hI hz)
        | (go_at_call 79;(with_reducible refine (TC.out _ B3.out).mono ?_);rintro e w4 ⟨rfl,hb⟩;have I4:=Lib.hid (I3.out.below hb);have B4:=Lib.hid (bl_then B3.out hb);have K4:=Lib.hid (kb_keep hb K3.out);clear d0 d1 d2;have d0:=kb_cell K4.out (i:=0) rfl;have d1:=kb_cell K4.out (i:=1) rfl;have d2:=kb_cell K4.out (i:=2) rfl;clear hb))
      go_upto_region 13 with (first
        | (go_at_call 82;(with_reducible refine (cR.out _ _ _ _ (IntAt.zero w4) (I4.out.alloc _)).mono ?_);rintro e w5 ⟨rfl,hI,hz⟩;have Q5:=Lib.hid hI;have I5:=Lib.hid ((I4.out.alloc _).keep (IntAt.zero w4) (Nat.ne_of_lt I4.out.lt) hz);have NQ:=Lib.hid I4.out.lt;have NW:=Lib.hid (kb_lt K4.out);have B5:=Lib.hid (Bz.below (bl_alloc B4.out _) hz (Nat.le_trans B4.out.size (by simp)) B4.out.size);have K5:=Lib.hid ((hz.block W.heap.size (kb_lt (kb_alloc (o':=nilI) K4.out)) (Nat.ne_of_lt (kb_lt K4.out))).trans (kb_alloc (o':=nilI) K4.out));clear hI hz))
      obtain ⟨bq2,hbq⟩:∃ q,w4.heap.size=q:=⟨_,rfl⟩
      rw [hbq] at Q5 NQ NW
      simp only [hbq]
      clear hbq
      go_upto_region 15 with (first
        | (go_at_call 81;(with_reducible refine (cU.out _ _ Q5.out).mono ?_);rintro e w6 ⟨rfl,rfl⟩)
        | (go_at_call 80;(with_reducible refine (cL.out _ _ Q5.out).mono ?_);rintro e w6 ⟨rfl,hI,hz⟩;have Q6:=Lib.hid hI;have I6:=Lib.hid (I5.out.keep Q5.out (Nat.ne_of_lt NQ.out) hz);have B6:=Lib.hid (Bz.below B5.out hz B5.out.size (Nat.le_of_lt NW.out));have K6:=Lib.hid ((hz.block W.heap.size (kb_lt K5.out) (Nat.ne_of_lt NW.out)).trans K5.out);clear hI hz)
        | (go_at_call 83;(with_reducible refine (cS.out _ _ _ I6.out Q6.out).mono ?_);rintro e w7 ⟨rfl,hI,hz⟩;have I7:=Lib.hid hI;have B7:=Lib.hid (Bz.below B6.out hz B6.out.size (Nat.le_of_lt NB.out));have K7:=Lib.hid ((hz.block W.heap.size (kb_lt K6.out) (Nat.ne_of_lt NB.out)).trans K6.out);clear hI hz))
      have R7:=Lib.hid (IntAt.zero w7)
      have NR:=Lib.hid I7.out.lt
      have NZ:=Lib.hid (kb_lt K7.out)
      have I7:=Lib.hid (I7.out.alloc nilI)
      have B7:=Lib.hid (bl_alloc B7.out nilI)
      have K7:=Lib.hid (kb_alloc (o':=nilI) K7.out)
      go_upto_region 16 with (first
        | (go_at_call 85;(with_reducible refine (cN.out _).mono ?_);rintro e w8 ⟨b1,rfl,hbs,hI,hb⟩;have O8:=Lib.hid hI;have I8:=Lib.hid (I7.out.below hb);have R8:=Lib.hid (R7.out.below hb);have B8:=Lib.hid (bl_then B7.out hb);have K8:=Lib.hid (kb_keep hb K7.out);have NS:=Lib.hid (Nat.lt_of_lt_of_le R7.out.lt hbs);clear hI hb hbs)
        | (go_at_call 80;(with_reducible refine (cM.out _ _ _ _ R8.out O8.out).mono ?_);rintro e w9 ⟨rfl,hI,hz⟩;have O9:=Lib.hid hI;have I9:=Lib.hid (I8.out.keep R8.out (Nat.ne_of_lt NR.out) hz);have B9:=Lib.hid (Bz.below B8.out hz B8.out.size (Nat.le_of_lt NZ.out));have K9:=Lib.hid ((hz.block W.heap.size (kb_lt K8.out) (Nat.ne_of_lt NZ.out)).trans K8.out);clear hI hz)
        | (go_at_call 84;(with_reducible refine (cC.out _ _ _ I9.out O9.out).mono ?_);rintro e wA ⟨rfl,hb⟩;have IA:=Lib.hid (I9.out.below hb);have BA:=Lib.hid (bl_then B9.out hb);have KA:=Lib.hid (kb_keep hb K9.out);have d0:=kb_cell KA.out (i:=0) rfl;have d1:=kb_cell KA.out (i:=1) rfl;have d2:=kb_cell KA.out (i:=2) rfl;clear hb))
      have BC:=BA
      have KC:=KA
      go_wp2_with (first
        | (go_at_call 86;(with_reducible refine (cG.out _ _ IA.out).mono ?_);rintro e wB ⟨rfl,rfl⟩)
        | (go_at_call 87;(with_reducible refine (AW.out _).mono ?_);rintro e wC ⟨rfl,hb⟩;have BC:=Lib.hid (bl_then BA.out hb);have KC:=Lib.hid (kb_keep hb KA.out);clear d0 d1 d2;have d0:=kb_cell KC.out (i:=0) rfl;have d1:=kb_cell KC.out (i:=1) rfl;have d2:=kb_cell KC.out (i:=2) rfl;clear hb)
        | (go_at_call 88;(with_reducible (first|refine (F0.out _ BC.out).mono ?_|refine (F1.out _ BC.out).mono ?_));rintro e wD ⟨rfl,hb⟩;have BD:=Lib.hid (bl_then BC.out hb);clear hb))
      go_ret2
      exact ⟨p,AR.out,by first|(rw [HS.out];done)|(rw [HS.out];rfl),BD.out⟩
end Go.Proofs.YtmndoelimincdaaGreatDoor
namespace Go.Proofs.YtmndoelimincdaaGreatDoor
open Go Go.RowKit GFl Ieee
set_option maxRecDepth 100000
theorem toInt_any {z m:Nat} (hz:W64 z) (hf:rg z < 9218868437227405312) (hm:mg B52 (rg z)=m * p2 1074):(double.read z).toInt .zero=some (if neg z=true then -(m:Int) else (m:Int)):=by
  obtain ⟨q,e,h1,h2,h3,_,_⟩:=read_num (f:=double) hz (by rw [d_inf];exact hf)
  rw [h1]
  rw [d_l] at h2 h3
  have h3:q * p2 (e + 1074).toNat=m * p2 1074:=by
    rw [p2_def]
    have e1:e + 1074=e - -1074:=by omega
    rw [e1,h3]
    exact hm
  simp only [Datum.toInt,Datum.integral,signed]
  have key:Toward.zero.cut (sgn double z) (q <<< e.toNat) (-e).toNat=m:=by
    unfold Toward.cut
    simp only [Bool.toNat_false,Nat.add_zero,Nat.shiftLeft_eq,Nat.one_mul]
    by_cases he:0≤e
    · have e0:(-e).toNat=0:=by omega
      rw [e0,Nat.zero_min,Nat.pow_zero,Nat.div_one]
      have e2:p2 (e + 1074).toNat=p2 e.toNat * p2 1074:=by rw [← p2_add];congr 1;omega
      rw [e2,← Nat.mul_assoc] at h3
      rw [← p2_def]
      exact Nat.eq_of_mul_eq_mul_right (p2_pos _) h3
    · have e0:e.toNat=0:=by omega
      rw [e0,Nat.pow_zero,Nat.mul_one]
      have e2:p2 1074=p2 (-e).toNat * p2 (e + 1074).toNat:=by rw [← p2_add];congr 1;omega
      rw [e2,← Nat.mul_assoc] at h3
      have h4:=Nat.eq_of_mul_eq_mul_right (p2_pos _) h3
      rw [p2_def] at h4
      by_cases hm0:m=0
      · subst hm0;rw [h4];simp
      · have hle:2 ^ (-e).toNat≤q:=by rw [h4];exact Nat.le_mul_of_pos_left _ (by omega)
        have hq0:q ≠ 0:=by have:=Nat.two_pow_pos (-e).toNat;omega
        have hlog:(-e).toNat≤q.log2:=(Nat.le_log2 hq0).2 hle
        rw [Nat.min_eq_left (by omega),h4]
        exact Nat.mul_div_cancel _ (Nat.two_pow_pos _)
  rw [key,Nat.shiftLeft_zero]
  rfl
theorem r63:mg B52 4890909195324358656=p2 1137:=by
  have:mg B52 4890909195324358656=B52 * p2 1085:=mg_B 1086 0 (by decide) (by decide)
  rw [this];decide +kernel
theorem r53:mg B52 4845873199050653696=p2 1127:=by
  have:mg B52 4845873199050653696=B52 * p2 1075:=mg_B 1076 0 (by decide) (by decide)
  rw [this];decide +kernel
theorem p2_1137:p2 1137=9223372036854775808 * p2 1074:=by decide +kernel
theorem p2_1127:p2 1127=9007199254740992 * p2 1074:=by decide +kernel
structure IntF (n:Int) (f:Nat) (k:Int):Prop where
  e:floatOfInt .f64 n=f
  w:W64 f
  r:IsRn B52 (n.natAbs * p2 1074) 1 (rg f)
  g:neg f=decide (n < 0)
  hi:rg f≤4890909195324358656
  v:val f=k * ((p2 1074:Nat):Int)
  b:-9223372036854775808≤k∧k≤9223372036854775808
theorem int_f (n:Int) (h1:-9223372036854775808≤n) (h2:n≤9223372036854775807):∃ f k,IntF n f k:=by
  obtain ⟨r,hr,hw⟩:=nearest_rn good_double (decide (n < 0)) n.natAbs 0
  rw [d_l,d_b,← p2_def,← p2_def,show ((0:Int) - -1074).toNat=1074 by decide,show ((-1074:Int) - 0).toNat=0 by decide,p2_zero] at hr
  have hr:IsRn B52 (n.natAbs * p2 1074) 1 r:=hr
  have up:r≤4890909195324358656:=rn_le B52_pos Nat.one_pos hr (by rw [r63,p2_1137,Nat.mul_one];exact Nat.mul_le_mul_right _ (by omega))
  have hlt:r < 9223372036854775808:=by omega
  have hdv:∃ j,mg B52 r=j * p2 1074∧j≤9223372036854775808:=by
    have hj:∃ j,mg B52 r=j * p2 1074:=by
      rcases Nat.lt_or_ge n.natAbs 9007199254740992 with h|h
      · obtain ⟨q,hq⟩:=rep (B:=B52) n.natAbs 1074 (by unfold B52;omega)
        have:r=q:=rn_exact B52_pos Nat.one_pos hr (by rw [hq,Nat.mul_one])
        exact ⟨n.natAbs,by rw [this,hq]⟩
      · have lo:4845873199050653696≤r:=rn_ge B52_pos Nat.one_pos hr (by rw [r53,p2_1127,Nat.mul_one];exact Nat.mul_le_mul_right _ h)
        have hB:B52=4503599627370496:=rfl
        obtain ⟨s,t,ht,e⟩:=rung_split B52_pos (show B52≤r by omega)
        have hs:1074≤s:=by rw [hB] at ht e;omega
        refine ⟨(B52 + t) * p2 (s - 1074),?_⟩
        rw [e,mg_eq B52 s t ht,Nat.mul_assoc,← p2_add,p2_def]
        congr 2
        omega
    obtain ⟨j,hj⟩:=hj
    refine ⟨j,hj,?_⟩
    have h3:=mg_mono B52_pos up
    rw [r63,p2_1137,hj] at h3
    exact Nat.le_of_mul_le_mul_right h3 (p2_pos _)
  obtain ⟨j,hj,hj2⟩:=hdv
  refine ⟨wd (decide (n < 0)) r,if n < 0 then -(j:Int) else (j:Int),?_,wd_w hlt,by rw [wd_rg hlt];exact hr,wd_neg hlt,by rw [wd_rg hlt];exact up,?_,?_⟩
  · unfold floatOfInt FloatKind.nearest FloatKind.encode FloatKind.format
    show double.nearest _ _ _=_
    rw [hw,d_inf,Nat.min_eq_left (by omega)];rfl
  · rw [val_wd hlt,hj]
    by_cases hn:n < 0
    · rw [decide_eq_true hn,if_pos rfl,if_pos hn,Int.neg_mul];push_cast;rfl
    · rw [decide_eq_false hn,if_neg (by simp),if_neg hn];push_cast;rfl
  · split <;> omega
theorem IntF.back {n k:Int} {f:Nat} (h:IntF n f k) (hk:k≤9223372036854775807):floatToIntVal .f64 f .i64=some k:=by
  have hf:rg f < 9218868437227405312:=by have:=h.hi;omega
  have hv:=h.v
  have hp:(0:Int) < ((p2 1074:Nat):Int):=by have:=p2_pos 1074;omega
  have hm:mg B52 (rg f)=k.natAbs * p2 1074:=by
    rw [← val_natAbs,hv,Int.natAbs_mul,Int.natAbs_natCast]
  have h2:(FloatKind.f64.decode f).toInt .zero=some (if neg f=true then -((k.natAbs:Nat):Int) else ((k.natAbs:Nat):Int)):=toInt_any h.w hf hm
  have e:(if neg f=true then -((k.natAbs:Nat):Int) else ((k.natAbs:Nat):Int))=k:=by
    have hs:=val_sg f
    rw [hv] at hs
    cases hn:neg f
    · have:=hs.1 hn
      have h0:0≤k:=by
        rcases Int.lt_or_le k 0 with h|h
        · have:=Int.mul_neg_of_neg_of_pos h hp;omega
        · exact h
      simp only [Bool.false_eq_true,if_false];omega
    · have:=hs.2 hn
      have h0:k≤0:=by
        rcases Int.lt_or_le 0 k with h|h
        · have:=Int.mul_pos h hp;omega
        · exact h
      simp only [if_true];omega
  rw [e] at h2
  unfold floatToIntVal
  rw [h2]
  have a1:IntKind.i64.min=-9223372036854775808:=by decide
  have a2:IntKind.i64.max=9223372036854775807:=by decide
  simp only [a1,a2]
  rw [if_pos ⟨h.b.1,hk⟩]
def intS (n:Int) (f:Nat):Int:=(n * ((p2 1074:Nat):Int) - val f).sign
theorem intS_k {n k:Int} {f:Nat} (h:IntF n f k):intS n f=(n - k).sign:=by
  have hp:(0:Int) < ((p2 1074:Nat):Int):=by have:=p2_pos 1074;omega
  unfold intS
  rw [h.v,← Int.sub_mul,Int.sign_mul,Int.sign_eq_one_of_pos hp,Int.mul_one]
def intR (n m:Int):Nat:=settleW (floatOfInt .f64 n) (intS n (floatOfInt .f64 n)) (wayI m)
theorem int_round {n k:Int} {f p:Nat} (h:IntF n f k) (mode:Int) (ar:Ar (n.natAbs * p2 1074) 1 p):wordY (decide (n < 0)) mode (szR (decide (n < 0)) mode (n.natAbs * p2 1074) 1 p)=settleW f (intS n f) mode:=by
  rw [szR_settle ar]
  have e1:nrR (n.natAbs * p2 1074) 1 p=rg f:=(nr_is ar).unique B52_pos Nat.one_pos h.r
  have hf:=h.hi
  rw [e1,Nat.min_eq_left (by omega)]
  have e2:wd (decide (n < 0)) (rg f)=f:=by rw [← h.g];exact (w64_wd h.w).symm
  rw [e2]
  congr 1
  unfold eR intS
  rw [val_eq',h.g]
  show _=(n * ((p2 1074:Nat):Int) - if decide (n < 0)=true then -((mg B52 (rg f):Nat):Int) else ((mg B52 (rg f):Nat):Int)).sign
  rw [Nat.mul_one]
  generalize mg B52 (rg f)=M
  by_cases hn:n < 0
  · rw [decide_eq_true hn]
    simp only [if_true]
    rw [← Int.sign_neg]
    congr 1
    have:n * ((p2 1074:Nat):Int)=-((n.natAbs * p2 1074:Nat):Int):=by
      rw [Int.natCast_mul,← Int.neg_mul];congr 1;omega
    rw [this];omega
  · rw [decide_eq_false hn]
    simp only [Bool.false_eq_true,if_false]
    congr 1
    have:n * ((p2 1074:Nat):Int)=((n.natAbs * p2 1074:Nat):Int):=by
      rw [Int.natCast_mul];congr 1;omega
    rw [this]
theorem int_zero (m:Int):settleW 0 (intS 0 0) m=0:=by
  have:intS 0 0=0:=by unfold intS;decide +kernel
  rw [this]
  unfold settleW
  rw [if_neg (by decide),if_neg (by omega)]
end Go.Proofs.YtmndoelimincdaaGreatDoor
namespace Go.Proofs.YtmndoelimincdaaGreatDoor
open Go Go.RowKit Nv GFl
open Go.Proofs.YtmndoelimincdaaGreatDoorW.PrintWords (Kd own_move own_ne own_lt own_base own_typed)
open XBn
set_option maxRecDepth 100000
set_option linter.unusedSimpArgs false
attribute [local go_sem] run_f64bits run_f64frombits run_neg_f64
def YIPost (n:Int) (w:World) (e:Ending) (w':World):Prop:=∃ d g m x,e=.returned d∧Dy w' d g m x∧IsMade 1 n 0 g m x∧Below w.heap.size w w'
set_option maxHeartbeats 1000000 in
theorem yint_c (n:Int) (h1:-9223372036854775808≤n) (h2:n≤9223372036854775807) (W:World):Calls Tryz.prog 47 #[.int .i64 n] W (YIPost n W):=by
  have NI:Hid (∀ w,Calls Tryz.prog 85 #[.int .i64 n] w (NPost n w)):=Lib.hid (fun w=>newInt_c n h1 h2 w)
  have MD:Hid (∀ w b,IntAt w b n→Calls Tryz.prog 89 #[pt b,.int .i64 0] w (MadePost 1 n 0 w)):=Lib.hid (fun w b h=>ymade_c h (Nat.lt_of_lt_of_le (show n.natAbs < 18446744073709551616 by omega) (by decide)) (by decide) (by decide) (by decide))
  clear h1 h2
  have B0:=Lib.hid (bl_alloc (Below.refl W.heap.size W) nilD)
  have K0:=Lib.hid (kb_new (w:=W) (o:=nilD) (Below.refl _ _))
  go_enter Tryz.func47,Tryz.ntmps47
  go_upto_region 2 with (first
    | (go_at_call 85;(with_reducible refine (NI.out _).mono ?_);rintro e w1 ⟨b,rfl,_,hI,hb⟩;have I1:=Lib.hid hI;have B1:=Lib.hid (bl_then B0.out hb);have K1:=Lib.hid (kb_keep hb K0.out);clear hI hb)
    | (go_at_call 89;(with_reducible refine (MD.out _ _ I1.out).mono ?_);rintro e w2 ⟨d,g,m,x,rfl,hd,hm,hb⟩;obtain ⟨A,c,rfl,hl,hC⟩:=hd;have HD:=Lib.hid (show Dy w2 (.agg #[.bool g,.slice A (lbs m).length c,.int .i64 x]) g m x from ⟨A,c,rfl,hl,hC⟩);have HM:=Lib.hid hm;have B2:=Lib.hid (bl_then B1.out hb);have K2:=Lib.hid (kb_keep hb K1.out);clear hl hC hm hb))
  obtain ⟨N,hN⟩:∃ N,(lbs m).length=N:=⟨_,rfl⟩
  rw [hN] at HD
  simp only [hN]
  clear hN
  have B3:=Lib.hid (bl_alloc B2.out (.cells #[.bool g,.slice A N c,.int .i64 x] 48))
  have K3:=Lib.hid (kb_alloc (o':=.cells #[.bool g,.slice A N c,.int .i64 x] 48) K2.out)
  have N3:=Lib.hid (kb_new (w:=w2) (o:=.cells #[.bool g,.slice A N c,.int .i64 x] 48) (Below.refl _ _))
  have H3:=Lib.hid (HD.out.below (bl_alloc (Below.refl w2.heap.size w2) (.cells #[.bool g,.slice A N c,.int .i64 x] 48)))
  obtain ⟨w3,hw3⟩:∃ w,w2.alloc (.cells #[.bool g,.slice A N c,.int .i64 x] 48)=w:=⟨_,rfl⟩
  obtain ⟨b3,hb3⟩:∃ b,w2.heap.size=b:=⟨_,rfl⟩
  rw [hw3] at B3 K3 N3 H3
  rw [hb3] at N3
  simp only [hw3,hb3]
  clear hw3 hb3 NI MD
  have a0:=kb_cell N3.out (i:=0) rfl
  have a1:=kb_cell N3.out (i:=1) rfl
  have a2:=kb_cell N3.out (i:=2) rfl
  have d0:=kb_cell K3.out (i:=0) rfl
  have d1:=kb_cell K3.out (i:=1) rfl
  have d2:=kb_cell K3.out (i:=2) rfl
  have f0:=kb_frozen K3.out 0
  have f1:=kb_frozen K3.out 1
  have f2:=kb_frozen K3.out 2
  go_wp2
  have y0:=rw_setc K3.out 0 (.bool g)
  have y1:=rw_setc y0 1 (.slice A N c)
  have y2:=rw_setc y1 2 (.int .i64 x)
  have z0:=kb_cell y2 (i:=0) rfl
  have z1:=kb_cell y2 (i:=1) rfl
  have z2:=kb_cell y2 (i:=2) rfl
  refine bodyPost_ret (v:=.agg #[.bool g,.slice A N c,.int .i64 x]) (by simp [results,Tryz.results47,go_sem,z0,z1,z2]) rfl ?_
  exact ⟨_,g,m,x,rfl,H3.out.set3 K3.out (fun z h=>by cases h),HM.out,bl_set (bl_set (bl_set B3.out _ (Nat.le_refl _)) _ (Nat.le_refl _)) _ (Nat.le_refl _)⟩
set_option maxHeartbeats 1000000 in
theorem dround_z {k:Nat} {g:Bool} {x:Int} {d:Value} {W:World} (h:Dy W d g 0 x) (r:DR k g 0 x) (mode:Int) :
    Calls Tryz.prog 46 #[d,.int .i8 mode] W fun e w'=>e=.returned (.tuple #[.float .f64 0,.int .i64 0])∧Below W.heap.size W w':=by
  have RC:Hid (∀ w,Below W.heap.size W w→Calls Tryz.prog 76 #[d] w fun e w'=>e=.returned (.bool true)∧Below w.heap.size w w'):=Lib.hid (fun w hb=>yright_c (h.below hb) r)
  obtain ⟨A,c,rfl,_⟩:=h
  have hn:(lbs 0).length=0:=by rw [lbs_zero];rfl
  rw [hn] at RC ⊢
  clear hn r
  have B0:=Lib.hid (bl_alloc (Below.refl W.heap.size W) (.cells #[.bool g,.slice A 0 c,.int .i64 x] 48))
  have K0:=Lib.hid (kb_new (w:=W) (o:=.cells #[.bool g,.slice A 0 c,.int .i64 x] 48) (Below.refl _ _))
  have d0:=kb_cell K0.out (i:=0) rfl
  have d1:=kb_cell K0.out (i:=1) rfl
  have d2:=kb_cell K0.out (i:=2) rfl
  go_enter Tryz.func46,Tryz.ntmps46
  go_wp2_with (go_at_call 76;(with_reducible refine (RC.out _ B0.out).mono ?_);rintro e w1 ⟨rfl,hb⟩;have B0:=Lib.hid (bl_then B0.out hb);have K0:=Lib.hid (kb_keep hb K0.out);clear d0 d1 d2;have d0:=kb_cell K0.out (i:=0) rfl;have d1:=kb_cell K0.out (i:=1) rfl;have d2:=kb_cell K0.out (i:=2) rfl;clear hb)
  go_ret2
  exact ⟨rfl,B0.out⟩
theorem int_ar {n:Int} {g:Bool} {m:Nat} {x:Int} (h:IsMade 1 n 0 g m x) (h0:n ≠ 0):m ≠ 0∧0≤x∧x≤64∧g=decide (n < 0)∧m * p2 (x + 1074).toNat=n.natAbs * p2 1074∧p2 (-1074 - x).toNat=1:=by
  obtain ⟨n1,n2,n3,n4⟩:=h.n h0
  have e:n.natAbs=m * p2 x.toNat:=by
    rw [← n4,Int.natAbs_mul,sg_abs2,Int.natAbs_natCast,Int.sub_zero]
  refine ⟨n1,n2,by omega,?_,?_,?_⟩
  · have hp:(0:Int) < ((p2 (x - 0).toNat:Nat):Int):=by have:=p2_pos (x - 0).toNat;omega
    cases g
    · have:¬ n < 0:=by
        rw [← n4]
        have:0≤sg false (m:Int) * ((p2 (x - 0).toNat:Nat):Int):=Int.mul_nonneg (by simp [sg]) (Int.le_of_lt hp)
        omega
      rw [decide_eq_false this]
    · have:n < 0:=by
        rw [← n4]
        exact Int.mul_neg_of_neg_of_pos (by simp only [sg,if_true];omega) hp
      rw [decide_eq_true this]
  · rw [e,Nat.mul_assoc,← p2_add]
    congr 2;omega
  · rw [show (-1074 - x).toNat=0 by omega,p2_zero]
set_option maxHeartbeats 1000000 in
theorem rint_c (n m:Int) (h1:-9223372036854775808≤n) (h2:n≤9223372036854775807) (W:World) (hT:Tab W) :
    Calls Tryz.prog 12 #[.int .i64 n,.int .i8 m] W fun e w'=>e=.returned (.float .f64 (intR n m))∧Below W.heap.size W w':=by
  have IC:Hid (∀ w,Calls Tryz.prog 47 #[.int .i64 n] w (YIPost n w)):=Lib.hid (fun w=>yint_c n h1 h2 w)
  have RC:Hid (∀ w d g m' x,Below W.heap.size W w→Dy w d g m' x→IsMade 1 n 0 g m' x→Calls Tryz.prog 46 #[d,.int .i8 (wayI m)] w fun e w'=>e=.returned (.tuple #[.float .f64 (intR n m),.int .i64 0])∧Below w.heap.size w w'):=Lib.hid (fun w d g m' x hb hd hm=>by
    by_cases h0:n=0
    · subst h0
      have e0:=hm.z rfl
      subst e0
      have e1:floatOfInt .f64 0=0:=by decide
      have e2:intR 0 m=0:=by unfold intR;rw [e1];exact int_zero _
      rw [e2]
      exact dround_z hd hm.r (wayI m)
    · obtain ⟨i1,i2,i3,i4,i5,i6⟩:=int_ar hm h0
      obtain ⟨f,k,hf⟩:=int_f n h1 h2
      refine (dround_c hd hm.r i1 (by decide) (by omega) (by omega) (wayI m) (hT.below hb)).mono ?_
      rintro e w' ⟨p,ar,rfl,hb'⟩
      rw [i5,i6] at ar
      refine ⟨?_,hb'⟩
      rw [i5,i6,i4,int_round hf (wayI m) ar]
      unfold intR
      rw [hf.e])
  have WC:Hid (∀ w,Calls Tryz.prog 29 #[.int .i8 m] w fun e w'=>e=.returned (.int .i8 (wayI m))∧w=w'):=Lib.hid (fun w=>way_c m w)
  have B0:=Lib.hid (Below.refl W.heap.size W)
  clear hT h1 h2
  go_enter Tryz.func12,Tryz.ntmps12
  go_wp2_with (first
    | (go_at_call 47;(with_reducible refine (IC.out _).mono ?_);rintro e w1 ⟨d,g,m',x,rfl,hd,hm,hb⟩;have B1:=Lib.hid (bl_then B0.out hb);have HD:=Lib.hid hd;have HM:=Lib.hid hm;clear hd hm hb)
    | (go_at_call 29;(with_reducible refine (WC.out _).mono ?_);rintro e w2 ⟨rfl,rfl⟩)
    | (go_at_call 46;(with_reducible refine (RC.out _ _ _ _ _ B1.out HD.out HM.out).mono ?_);rintro e w3 ⟨rfl,hb⟩;have B3:=Lib.hid (bl_then B1.out hb);clear hb))
  go_ret
  exact ⟨rfl,B3.out⟩
theorem int_z0 {n k:Int} {f:Nat} (h:IntF n f k) (hz:rg f=0):n=0:=by
  have h1:=h.r.up
  rw [hz] at h1
  have h2:mg B52 0 + mg B52 (0 + 1)=1:=by decide +kernel
  rw [h2] at h1
  have h3:=p2_pos 1074
  rcases Nat.eq_zero_or_pos n.natAbs with e|e
  · omega
  · have:1 * p2 1074≤n.natAbs * p2 1074:=Nat.mul_le_mul_right _ e
    omega
theorem int_top {n k:Int} {f:Nat} (h:IntF n f k):(FloatKind.f64.format.order f 4890909195324358656 == some .eq)=decide (k=9223372036854775808):=by
  have hf:=h.hi
  have hi:isn f=false:=by rw [isn_eq];simp;omega
  have e1:isn 4890909195324358656=false:=by decide
  have e2:plc 4890909195324358656=4890909195324358656:=by decide
  rw [t_eq h.w (w_const (by decide)),hi,e1,e2,Bool.not_false,Bool.true_and,Bool.true_and,Bool.eq_iff_iff,decide_eq_true_eq,decide_eq_true_eq]
  have hp:(0:Int) < ((p2 1074:Nat):Int):=by have:=p2_pos 1074;omega
  have hm:mg B52 (rg f)=k.natAbs * p2 1074:=by rw [← val_natAbs,h.v,Int.natAbs_mul,Int.natAbs_natCast]
  have hb:=h.b
  constructor
  · intro hc
    have h3:neg f=false∧rg f=4890909195324358656:=by
      rw [plc_eq] at hc
      cases hn:neg f
      · rw [hn] at hc;simp only [Bool.false_eq_true,if_false] at hc;exact ⟨rfl,by omega⟩
      · rw [hn] at hc;simp only [if_true] at hc;omega
    rw [h3.2,r63,p2_1137] at hm
    have h4:=Nat.eq_of_mul_eq_mul_right (p2_pos _) hm
    have h5:=(val_sg f).1 h3.1
    rw [h.v] at h5
    rcases Int.lt_or_le k 0 with h6|h6
    · have:=Int.mul_neg_of_neg_of_pos h6 hp;omega
    · omega
  · intro hk
    rw [hk,show (9223372036854775808:Int).natAbs=9223372036854775808 from rfl,← p2_1137,← r63] at hm
    have h3:=mg_inj B52_pos hm
    rw [plc_eq,h3]
    cases hn:neg f
    · simp
    · have h5:=(val_sg f).2 hn
      rw [h.v,hk] at h5
      have:(0:Int) < 9223372036854775808 * ((p2 1074:Nat):Int):=Int.mul_pos (by decide) hp
      omega
set_option maxHeartbeats 1000000 in
theorem gint_c (n m:Int) (h1:-9223372036854775808≤n) (h2:n≤9223372036854775807) (w:World) :
    Calls Tryz.prog 13 #[.int .i64 n,.int .i8 m] w fun e w'=>e=.returned (.float .f64 (intR n m))∧Below w.heap.size w w':=by
  obtain ⟨f,k,hf⟩:=int_f n h1 h2
  have cv:=hf.e
  have tp:=int_top hf
  have hs:=intS_k hf
  have hhi:=hf.hi
  have hb:=hf.b
  have RS:Hid (intR n m=settleW f (n - k).sign (wayI m)):=Lib.hid (by unfold intR;rw [cv,hs])
  have SC:Hid (∀ off w,(n=0→k=0→off=0)→Calls Tryz.prog 41 #[.float .f64 f,.int .i64 off,.int .i8 m] w fun e w'=>e=.returned (.float .f64 (settleW f off (wayI m)))∧w=w'):=Lib.hid (fun off w ho=>g_sideA_c f off m hf.w (by omega) (fun hz=>by
    have e1:=int_z0 hf hz
    have e2:k=0:=by
      have h3:=hf.v
      rw [val_z hz] at h3
      rcases Int.mul_eq_zero.1 h3.symm with h|h
      · exact h
      · have:=p2_pos 1074;omega
    rw [ho e1 e2];omega) w)
  by_cases hk:k=9223372036854775808
  · rw [decide_eq_true hk] at tp
    have S1:Hid (∀ w,Calls Tryz.prog 41 #[.float .f64 f,.int .i64 (-1),.int .i8 m] w fun e w'=>e=.returned (.float .f64 (intR n m))∧w=w'):=Lib.hid (fun w=>by
      have:=SC.out (-1) w (by omega)
      rwa [show (-1:Int)=(n - k).sign from (Int.sign_eq_neg_one_of_neg (by omega)).symm,← RS.out,Int.sign_eq_neg_one_of_neg (by omega)] at this)
    clear hf hs hhi hb hk SC RS h1 h2
    go_enter Tryz.func13,Tryz.ntmps13
    go_wp2_with (go_at_call 41;refine (S1.out _).mono ?_;rintro e w' ⟨rfl,rfl⟩)
    go_ret
    exact ⟨rfl,by repeat' (first|(with_reducible exact Below.refl _ _)|(with_reducible refine bl_alloc ?_ _)|(with_reducible refine bl_drewN ?_ _)|(with_reducible refine bl_drew ?_)|(with_reducible refine bl_set ?_ _ (by simp)))⟩
  · rw [decide_eq_false hk] at tp
    have bk:∀ w,(convert 22 2 (.float .f64 f)).run Tryz.prog w=.ok (.int .i64 k) w:=fun w=>run_convert_float_int w _ _ .f64 .i64 f k rfl rfl (hf.back (by omega))
    rcases Int.lt_trichotomy n k with hlt|hlt|hlt
    · have S1:Hid (∀ w,Calls Tryz.prog 41 #[.float .f64 f,.int .i64 (-1),.int .i8 m] w fun e w'=>e=.returned (.float .f64 (intR n m))∧w=w'):=Lib.hid (fun w=>by
        have:=SC.out (-1) w (by omega)
        rw [RS.out,Int.sign_eq_neg_one_of_neg (by omega)]
        exact this)
      have l1:decide (n < k)=true:=decide_eq_true hlt
      clear hf hs hhi hb hk SC RS h1 h2 hlt
      go_enter Tryz.func13,Tryz.ntmps13
      go_wp2_with (go_at_call 41;refine (S1.out _).mono ?_;rintro e w' ⟨rfl,rfl⟩)
      go_ret
      exact ⟨rfl,by repeat' (first|(with_reducible exact Below.refl _ _)|(with_reducible refine bl_alloc ?_ _)|(with_reducible refine bl_drewN ?_ _)|(with_reducible refine bl_drew ?_)|(with_reducible refine bl_set ?_ _ (by simp)))⟩
    · have e1:intR n m=f:=by
        rw [RS.out,hlt,Int.sub_self,Int.sign_zero]
        unfold settleW
        rw [if_neg (by omega),if_neg (by omega)]
      have l1:decide (n < k)=false:=decide_eq_false (by omega)
      have l2:decide (k < n)=false:=decide_eq_false (by omega)
      rw [e1]
      clear hf hs hhi hb hk SC RS h1 h2 hlt e1
      go_enter Tryz.func13,Tryz.ntmps13
      go_wp2
      go_ret
      exact ⟨rfl,by repeat' (first|(with_reducible exact Below.refl _ _)|(with_reducible refine bl_alloc ?_ _)|(with_reducible refine bl_drewN ?_ _)|(with_reducible refine bl_drew ?_)|(with_reducible refine bl_set ?_ _ (by simp)))⟩
    · have S1:Hid (∀ w,Calls Tryz.prog 41 #[.float .f64 f,.int .i64 1,.int .i8 m] w fun e w'=>e=.returned (.float .f64 (intR n m))∧w=w'):=Lib.hid (fun w=>by
        have:=SC.out 1 w (by omega)
        rw [RS.out,Int.sign_eq_one_of_pos (by omega)]
        exact this)
      have l1:decide (n < k)=false:=decide_eq_false (by omega)
      have l2:decide (k < n)=true:=decide_eq_true hlt
      clear hf hs hhi hb hk SC RS h1 h2 hlt
      go_enter Tryz.func13,Tryz.ntmps13
      go_wp2_with (go_at_call 41;refine (S1.out _).mono ?_;rintro e w' ⟨rfl,rfl⟩)
      go_ret
      exact ⟨rfl,by repeat' (first|(with_reducible exact Below.refl _ _)|(with_reducible refine bl_alloc ?_ _)|(with_reducible refine bl_drewN ?_ _)|(with_reducible refine bl_drew ?_)|(with_reducible refine bl_set ?_ _ (by simp)))⟩
end Go.Proofs.YtmndoelimincdaaGreatDoor
namespace Go.Proofs.YtmndoelimincdaaGreatDoor
open Go Go.RowKit GFl Ieee
set_option maxRecDepth 100000
set_option linter.unusedSimpArgs false
theorem int_fo (n m:Int) (h1:-9223372036854775808≤n) (h2:n≤9223372036854775807):Fo (some (intR n m)) (intR n m):=by
  obtain ⟨f,k,hf⟩:=int_f n h1 h2
  have hh:=hf.hi
  refine ⟨?_,rfl⟩
  unfold intR
  rw [hf.e]
  exact settle_w hf.w (by omega)
set_option maxHeartbeats 1000000 in
theorem roundRoots_c (a:Nat) (n m:Int) (ha:W64 a) (h1:-9223372036854775808≤n) (h2:n≤9223372036854775807) (w:World) (hT:Tab w) :
    Calls Tryz.prog 3 #[.float .f64 a,.int .i64 n,.int .i8 m] w fun e w'=>e=.returned (.bool true)∧Below w.heap.size w w':=by
  have AB:=Lib.hid (fun w=>abs_c a ha w)
  obtain ⟨b,hbb⟩:∃ b,fabs a=b:=⟨_,rfl⟩
  have hb:W64 b:=by rw [← hbb];exact fabs_w a
  rw [hbb] at AB
  have P1:Hid (∀ w',Below w.heap.size w w'→Calls Tryz.prog 10 #[.float .f64 a,.int .i8 m] w' fun e w2=>∃ r,e=.returned (.float .f64 r)∧Fo (sqrtR a m) r∧Below w'.heap.size w' w2):=Lib.hid (fun w' h=>rsqrtA_c a m ha w' (hT.below h))
  have P2:=Lib.hid (fun w=>gsqrt_c a m ha w)
  have P3:Hid (∀ w',Below w.heap.size w w'→Calls Tryz.prog 10 #[.float .f64 b,.int .i8 m] w' fun e w2=>∃ r,e=.returned (.float .f64 r)∧Fo (sqrtR b m) r∧Below w'.heap.size w' w2):=Lib.hid (fun w' h=>rsqrtA_c b m hb w' (hT.below h))
  have P4:=Lib.hid (fun w=>gsqrt_c b m hb w)
  have P5:Hid (∀ w',Below w.heap.size w w'→Calls Tryz.prog 12 #[.int .i64 n,.int .i8 m] w' fun e w2=>e=.returned (.float .f64 (intR n m))∧Below w'.heap.size w' w2):=Lib.hid (fun w' h=>rint_c n m h1 h2 w' (hT.below h))
  have P6:=Lib.hid (fun w=>gint_c n m h1 h2 w)
  have IF:=Lib.hid (int_fo n m h1 h2)
  have SF:Hid (∀ o r s w,Fo o r→Fo o s→Calls Tryz.prog 9 #[.float .f64 r,.float .f64 s] w fun e w'=>e=.returned (.bool true)∧w'=w):=Lib.hid (fun o r s w h k=>(sameFloat_c r s h.1 k.1 w).mono fun _ _ x=>⟨by rw [x.1,h.same k],x.2⟩)
  have HA:Hid (∀ w',Below w.heap.size w w'→Calls Tryz.prog 14 #[] w' fun e w2=>e=.returned (.bool true)∧Below w'.heap.size w' w2):=Lib.hid (fun w' h=>awake03_of w' fun _ h2=>rint_t ((hT.below h).below h2) join_r)
  have B0:=Lib.hid (Below.refl w.heap.size w)
  clear ha hb hT hbb h1 h2
  go_enter Tryz.func3,Tryz.ntmps3
  go_wp2_with (first
    | (go_at_call 8;(with_reducible refine (AB.out _).mono ?_);rintro e w' ⟨rfl,hw⟩;obtain rfl:=hw.symm;clear hw)
    | (go_at_call 10;(with_reducible refine (P1.out _ (by first|exact B0.out|exact bl_drew B0.out|exact bl_drewN B0.out _)).mono ?_);rintro e w1 ⟨r1,rfl,hr,hb⟩;have R1:=Lib.hid hr;have B0:=Lib.hid (bl_then (show Below w.heap.size w _ by first|exact B0.out|exact bl_drew B0.out|exact bl_drewN B0.out _) hb);clear hr hb)
    | (go_at_call 11;(with_reducible refine (P2.out _).mono ?_);rintro e w2 ⟨r2,rfl,hr,hb⟩;have R2:=Lib.hid hr;have B0:=Lib.hid (bl_then (show Below w.heap.size w _ by first|exact B0.out|exact bl_drew B0.out|exact bl_drewN B0.out _) hb);clear hr hb)
    | (go_at_call 10;(with_reducible refine (P3.out _ (by first|exact B0.out|exact bl_drew B0.out|exact bl_drewN B0.out _)).mono ?_);rintro e w3 ⟨r3,rfl,hr,hb⟩;have R3:=Lib.hid hr;have B0:=Lib.hid (bl_then (show Below w.heap.size w _ by first|exact B0.out|exact bl_drew B0.out|exact bl_drewN B0.out _) hb);clear hr hb)
    | (go_at_call 11;(with_reducible refine (P4.out _).mono ?_);rintro e w4 ⟨r4,rfl,hr,hb⟩;have R4:=Lib.hid hr;have B0:=Lib.hid (bl_then (show Below w.heap.size w _ by first|exact B0.out|exact bl_drew B0.out|exact bl_drewN B0.out _) hb);clear hr hb)
    | (go_at_call 12;(with_reducible refine (P5.out _ (by first|exact B0.out|exact bl_drew B0.out|exact bl_drewN B0.out _)).mono ?_);rintro e w5 ⟨rfl,hb⟩;have B0:=Lib.hid (bl_then (show Below w.heap.size w _ by first|exact B0.out|exact bl_drew B0.out|exact bl_drewN B0.out _) hb);clear hb)
    | (go_at_call 13;(with_reducible refine (P6.out _).mono ?_);rintro e w6 ⟨rfl,hb⟩;have B0:=Lib.hid (bl_then (show Below w.heap.size w _ by first|exact B0.out|exact bl_drew B0.out|exact bl_drewN B0.out _) hb);clear hb)
    | (go_at_call 9;(with_reducible (first|refine (SF.out _ _ _ _ R1.out R2.out).mono ?_|refine (SF.out _ _ _ _ R3.out R4.out).mono ?_|refine (SF.out _ _ _ _ IF.out IF.out).mono ?_));rintro e w7 ⟨rfl,hw⟩;obtain rfl:=hw.symm;clear hw)
    | (go_at_call 14;(with_reducible refine (HA.out _ (by first|exact B0.out|exact bl_drew B0.out|exact bl_drewN B0.out _)).mono ?_);rintro e w8 ⟨rfl,hb⟩;have B0:=Lib.hid (bl_then (show Below w.heap.size w _ by first|exact B0.out|exact bl_drew B0.out|exact bl_drewN B0.out _) hb);clear hb))
  go_ret
  exact ⟨by first|rfl|simp,by first|exact B0.out|exact bl_drewN B0.out _⟩
theorem roundRoots_r (a:Nat) (n m:Int) (ha:W64 a) (h1:-9223372036854775808≤n) (h2:n≤9223372036854775807) (w:World) (hT:Tab w) :
    Calls Tryz.prog 3 #[.float .f64 a,.int .i64 n,.int .i8 m] w fun e w'=>e=.returned (.bool true)∧Below w.heap.size w w':=roundRoots_c a n m ha h1 h2 w hT
end Go.Proofs.YtmndoelimincdaaGreatDoor
namespace Go.Proofs.YtmndoelimincdaaGreatDoor
open Go Go.ChangeShapes Go.WideShapes Go.RowKit GFl
set_option maxRecDepth 100000
theorem Tryz.own:ownKnob Tryz.prog.godebug=none:=by kernel_rfl
theorem w64_of {x:Nat} (h:(Lit.float .f64 x).wf=true):W64 x:=W64.mk (by simpa [Lit.wf] using h)
theorem i64_of {x:Int} (h:(Lit.int .i64 x).wf=true):-9223372036854775808≤x∧x≤9223372036854775807:=by simpa [Lit.wf,IntKind.min,IntKind.max,IntKind.signed,IntKind.bits] using h
theorem no_standIn {ps:Array TypeId} {fn:Func} (h:fn.params=ps) (hall:(ps.toList.all fun t=>!Tryz.prog.wantsStandIn t)=true):∀ (j:Nat) (t:TypeId),fn.params[j]?=some t→Tryz.prog.wantsStandIn t=false:=by
  intro j t ht
  rw [h] at ht
  have hm:t ∈ ps.toList:=by rw [Array.mem_toList_iff];exact Array.mem_of_getElem? ht
  have:=List.all_eq_true.1 hall t hm
  simpa using this
def tabZs:List Int:=Lib.deBruijn64tab.map fun (n:Nat)=>(n:Int)
def laidL : List (String × DataW Unit) := [("math/bits.deBruijn64tab", Rows.laid_math_bits_deBruijn64tab)]
theorem laidL_eq : laidL = ("math/bits.deBruijn64tab", Lib.tabData .u8 tabZs) :: [] := by kernel_rfl
theorem tab_named : Tryz.prog.globalNamed "math/bits.deBruijn64tab" = some 1 := by kernel_rfl
theorem tab_type:(Tryz.prog.globals[1]?).map (·.type)=some 127:=by kernel_rfl
theorem tab_of_laid {W:World} (h:laidMet Tryz.prog laidL W):Tab W:=by
  rw [laidL_eq] at h
  have ht:=Lib.tabIs_of_head tab_named tab_type Tryz.underlying127 Tryz.underlying5 (by kernel_rfl) (by kernel_rfl) h
  intro j hj
  have hc:=ht.cell tab_named j (by simpa [tabZs] using hj)
  rw [hc]
  congr 2
  simp [tabZs,List.getD,hj]
def tabCells:Array Value:=(tabZs.map fun z=>Value.int .u8 z).toArray
noncomputable def laidWorld (os:Os):World :=
  { World.holding Tryz.prog os ⟨#[],#[],[]⟩ with heap:=(World.holding Tryz.prog os ⟨#[],#[],[]⟩).heap.modify 1 fun
      | .cells _ t frozen=>.cells tabCells t frozen
      | o=>o }
theorem laidWorld_row (os:Os) (args:Array Value):((laidWorld os).forCall (fun _ _=>0) ⟨#[],args,[]⟩).memory.heap[1]?=some (.cells tabCells 127 (0,0)):=by kernel_rfl
theorem tab_places:((MemPlace.row ⟨1,0,none⟩ tabCells.size ++ ([]:List MemPlace) ++ []).Nodup):=by decide
theorem laidWorld_met (os:Os) (args:Array Value):laidMet Tryz.prog laidL ((laidWorld os).forCall (fun _ _=>0) ⟨#[],args,[]⟩).memory:=by
  refine ⟨_,⟨1,127,tabCells,8,[],[],by kernel_rfl,by kernel_rfl,by kernel_rfl,by kernel_rfl,rfl,rfl⟩,tab_places,fun b off h=>?_⟩
  have h':MemPlace.cell b off ∈ (MemPlace.row ⟨1,0,none⟩ tabCells.size:List MemPlace):=by simpa using h
  have hall:(MemPlace.row ⟨1,0,none⟩ tabCells.size:List MemPlace).all (fun p=>match p with|.cell b _=>b == 1|_=>false)=true:=by decide
  have hb:=List.all_eq_true.1 hall _ h'
  obtain rfl:b=1:=by simpa using hb
  refine ⟨⟨_,_,laidWorld_row os args⟩,fun u v hc=>?_⟩
  exfalso
  simp only [World.cell?,laidWorld_row os args] at hc
  have hc':tabCells[off]?=some (.iface u v):=by simpa using hc
  unfold tabCells at hc'
  simp at hc'
end Go.Proofs.YtmndoelimincdaaGreatDoor
