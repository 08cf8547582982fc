import Derived.Test.YtalhpbilkhdfhaaDoorTRTm
import Derived.Test.YtalhpbilkhdfhaaDoorTRTk
import Derived.Test.YtalhpbilkhdfhaaDoorTRTl
namespace Go.Proofs.YtalhpbilkhdfhaaDoor
open Go Go.RowKit GFl Ieee Nv
set_option maxRecDepth 100000
set_option linter.unusedSimpArgs false
attribute [local go_sem] run_f64bits run_f64frombits run_neg_f64
theorem prod_nn {a b d:Datum} (h:a.product b=some d):∀ s p,d ≠ .nan s p:=by
  intro s p e
  subst e
  cases a <;> cases b <;> simp [Datum.product] at h
theorem mul_opt {x y s:Nat} (h:double.mul x y=some s):W64 s∧rg s≤9218868437227405312:=by
  unfold Format.mul at h
  obtain ⟨d,hd,rfl⟩:=Option.map_eq_some_iff.1 h
  exact write_w (prod_nn hd)
theorem quo_nn {k:Nat} {a b d:Datum} (h:a.quotient k b=some d):∀ s p,d ≠ .nan s p:=by
  intro s p e
  subst e
  cases a <;> cases b <;> simp [Datum.quotient] at h <;> (repeat' split at h) <;> simp at h
theorem div_opt {x y s:Nat} (h:double.div x y=some s):W64 s∧rg s≤9218868437227405312:=by
  unfold Format.div at h
  obtain ⟨d,hd,rfl⟩:=Option.map_eq_some_iff.1 h
  exact write_w (quo_nn hd)
theorem cmpZ_sign (a b:Int):cmpZ a b=(a - b).sign:=by
  unfold cmpZ
  rcases Int.lt_trichotomy a b with h|h|h
  · rw [if_pos h,Int.sign_eq_neg_one_of_neg (by omega)]
  · subst h;simp
  · rw [if_neg (by omega),if_pos h,Int.sign_eq_one_of_pos (by omega)]
def okB (a b:Nat):Bool:=fin a && fin b && !decide (rg a=0) && !decide (rg b=0)
def mulR (a b:Nat) (m:Int):Option Nat:=if okB a b=true then (double.mul a b).map (fun p=>settleW p (mulS a b p) (wayI m)) else double.mul a b
def divR (a b:Nat) (m:Int):Option Nat:=if okB a b=true then (double.div a b).map (fun p=>settleW p (divS a b p) (wayI m)) else double.div a b
theorem fin_r {x:Nat} (h:fin x=true):rg x < 9218868437227405312:=by unfold fin at h;simpa using h
theorem okB_t {a b:Nat} (fa:fin a=true) (fb:fin b=true) (za:rg a ≠ 0) (zb:rg b ≠ 0):okB a b=true:=by unfold okB;rw [fa,fb,decide_eq_false za,decide_eq_false zb];rfl
theorem okB_n {a b:Nat} (h:(fin a && fin b)=false):okB a b=false:=by unfold okB;rw [h];rfl
theorem okB_a {a b:Nat} (h:rg a=0):okB a b=false:=by unfold okB;rw [decide_eq_true h];simp
theorem okB_b {a b:Nat} (h:rg b=0):okB a b=false:=by unfold okB;rw [decide_eq_true h];simp
theorem mulR_no {a b:Nat} {m:Int} (h:okB a b=false):mulR a b m=double.mul a b:=by unfold mulR;rw [h];rfl
theorem divR_no {a b:Nat} {m:Int} (h:okB a b=false):divR a b m=double.div a b:=by unfold divR;rw [h];rfl
theorem mulR_ok {a b p:Nat} {m:Int} (h:okB a b=true) (e:double.mul a b=some p):mulR a b m=some (settleW p (mulS a b p) (wayI m)):=by unfold mulR;rw [h,e];rfl
theorem divR_ok {a b p:Nat} {m:Int} (h:okB a b=true) (e:double.div a b=some p):divR a b m=some (settleW p (divS a b p) (wayI m)):=by unfold divR;rw [h,e];rfl
theorem settle_inf {p:Nat} {o m:Int} (h:rg p=9218868437227405312):settleW p o m=settleW p 0 m:=by unfold settleW;rw [if_pos h,if_pos h]
theorem plain_rg {x:Nat} (h:plainF x=true):553942754166571008≤rg x∧rg x < 9218868437227405312:=by
  unfold plainF at h
  have h:=of_decide_eq_true h
  omega
theorem sign_rng (v:Int):v.sign=-1 ∨ v.sign=0 ∨ v.sign=1:=by
  rcases Int.lt_trichotomy v 0 with h|h|h
  · rw [Int.sign_eq_neg_one_of_neg h];simp
  · subst h;simp
  · rw [Int.sign_eq_one_of_pos h];simp
theorem cmp_wrap (x y:Int) (b:Nat):wrap64 (cmpZ x y * sgI b)=cmpZ x y * sgI b:=by
  rw [cmpZ_sign]
  have h1:=sign_rng (x - y)
  obtain ⟨h3,h4⟩:=sgI_rng b
  rcases h1 with h|h|h <;> rw [h] <;> unfold wrap64 <;> omega
set_option maxHeartbeats 8000000 in
theorem rmul_c (a b:Nat) (m:Int) (ha:W64 a) (hb:W64 b) (w:World) (hT:Tab w) :
    Calls Tryd.prog 7 #[.float .f64 a,.float .f64 b,.int .i8 m] w fun e w'=>∃ r,e=.returned (.float .f64 r)∧Fo (mulR a b m) r∧Below w.heap.size w w':=by
  have fn:∀ (w:World) (bl:Nat),bl=w.heap.size→Calls Tryd.prog 18 #[.slice (some ⟨bl,0,none⟩) 2 2] (w.alloc (.cells #[.float .f64 a,.float .f64 b] 22)) fun e w'=>e=.returned (.bool (fin a && fin b))∧w.alloc (.cells #[.float .f64 a,.float .f64 b] 22)=w':=fun w bl h=>h ▸
    (finite_c _ [a,b] (by simp) (by simp [ha,hb]) _ (frow2 a b w _)).mono fun _ _ h=>⟨by rw [h.1];simp,h.2⟩
  have WC:=Lib.hid (fun w=>way_c m w)
  by_cases hf:(fin a && fin b)=true
  · have fa:fin a=true:=by cases h:fin a <;> rw [h] at hf <;> simp at hf ⊢
    have fb:fin b=true:=by cases h:fin b <;> rw [h,fa] at hf <;> simp at hf ⊢
    have ra:=fin_r fa
    have rb:=fin_r fb
    rw [hf] at fn
    have FN:=Lib.hid fn
    clear fn hf
    by_cases za:rg a=0
    · have e0:(FloatKind.f64.format.order a 0 == some .eq)=true:=by rw [eqz ha (by omega),decide_eq_true za]
      have AR:=Lib.hid (mulR_no (m:=m) (okB_a (b:=b) za))
      clear ha hb hT fa fb ra rb za
      go_enter Tryd.func7,Tryd.ntmps7
      go_wp2_with (first|(go_at_call 17;refine (WC.out _).mono ?_;rintro e w' ⟨rfl,rfl⟩)|(refine wp_arith .f64 a b rfl rfl rfl ?_;intro r n hr;have HR:=Lib.hid (fo_of hr (fun y hy=>(mul_opt hy).1));clear hr)|(go_at_call 18;refine (FN.out _ _ (by simp)).mono ?_;rintro e w' ⟨rfl,rfl⟩))
      go_ret
      exact ⟨_,rfl,by rw [AR.out];exact HR.out,by repeat' (first|(with_reducible exact Below.refl _ _)|(with_reducible refine bl_alloc ?_ _)|(with_reducible refine bl_drewN ?_ _)|(with_reducible refine bl_drew ?_)|(with_reducible refine bl_set ?_ _ (by simp)))⟩
    · have e0:(FloatKind.f64.format.order a 0 == some .eq)=false:=by rw [eqz ha (by omega),decide_eq_false za]
      by_cases zb:rg b=0
      · have e1:(FloatKind.f64.format.order b 0 == some .eq)=true:=by rw [eqz hb (by omega),decide_eq_true zb]
        have AR:=Lib.hid (mulR_no (m:=m) (okB_b (a:=a) zb))
        clear ha hb hT fa fb ra rb za zb
        go_enter Tryd.func7,Tryd.ntmps7
        go_wp2_with (first|(go_at_call 17;refine (WC.out _).mono ?_;rintro e w' ⟨rfl,rfl⟩)|(refine wp_arith .f64 a b rfl rfl rfl ?_;intro r n hr;have HR:=Lib.hid (fo_of hr (fun y hy=>(mul_opt hy).1));clear hr)|(go_at_call 18;refine (FN.out _ _ (by simp)).mono ?_;rintro e w' ⟨rfl,rfl⟩))
        go_ret
        exact ⟨_,rfl,by rw [AR.out];exact HR.out,by repeat' (first|(with_reducible exact Below.refl _ _)|(with_reducible refine bl_alloc ?_ _)|(with_reducible refine bl_drewN ?_ _)|(with_reducible refine bl_drew ?_)|(with_reducible refine bl_set ?_ _ (by simp)))⟩
      · have e1:(FloatKind.f64.format.order b 0 == some .eq)=false:=by rw [eqz hb (by omega),decide_eq_false zb]
        obtain ⟨p,_,hp,pw,_,_,_⟩:=mul64x ha hb ra rb
        have pr:=(mul_opt hp).2
        have AR:=Lib.hid (mulR_ok (m:=m) (okB_t fa fb za zb) hp)
        have AW:Hid (W64 (settleW p (mulS a b p) (wayI m))):=Lib.hid (settle_w pw pr)
        have d0:∀ (t':TypeId) w,(binOp .mul t' (.float .f64 a) (.float .f64 b)).run Tryd.prog w=.ok (.float .f64 p) w:=fun t' w=>run_float_arith w .mul t' .f64 a b p hp
        have SC:=Lib.hid (fun off w=>settle_c p off (wayI m) pw pr w)
        have pl:∀ (w:World) (bl:Nat),bl=w.heap.size→Calls Tryd.prog 24 #[.slice (some ⟨bl,0,none⟩) 3 3] (w.alloc (.cells #[.float .f64 a,.float .f64 b,.float .f64 p] 22)) fun e w'=>e=.returned (.bool (plainF a && plainF b && plainF p))∧w.alloc (.cells #[.float .f64 a,.float .f64 b,.float .f64 p] 22)=w':=fun w bl h=>h ▸
          (plain_c _ [a,b,p] (by simp) (by simp [ha,hb,pw]) _ (frow3 a b p w _)).mono fun _ _ h=>⟨by rw [h.1];simp [Bool.and_assoc],h.2⟩
        have S2:=Lib.hid (fun w=>sign_c b hb w)
        by_cases hpl:(plainF a && plainF b && plainF p)=true
        · obtain ⟨⟨pa,_⟩,pp⟩:(plainF a=true∧plainF b=true)∧plainF p=true:=by simpa using hpl
          obtain ⟨g1,g2⟩:=plain_rg pp
          obtain ⟨t,ht,tw,ts⟩:=mul_side ha hb ra rb hp g2 g1
          rw [hpl] at pl
          have PL:=Lib.hid pl
          have D:=run_fma64 ht
          have S1:=Lib.hid (fun w=>sign_c t tw w)
          rw [ts] at S1
          clear ts S2
          clear pl hpl pa pp g1 g2 ht tw pw pr hp za zb ra rb fa fb ha hb hT
          go_enter Tryd.func7,Tryd.ntmps7
          go_wp2_with (first|(go_at_call 17;refine (WC.out _).mono ?_;rintro e w' ⟨rfl,rfl⟩)|(go_at_call 18;refine (FN.out _ _ (by simp)).mono ?_;rintro e w' ⟨rfl,rfl⟩)|(go_at_call 24;refine (PL.out _ _ (by simp)).mono ?_;rintro e w' ⟨rfl,rfl⟩)|(go_at_call 23;(with_reducible (first|refine (S1.out _).mono ?_));rintro e w' ⟨rfl,rfl⟩)|(go_at_call 22;refine (SC.out _ _).mono ?_;rintro e w' ⟨rfl,rfl⟩))
          go_ret
          exact ⟨_,rfl,Fo.mk AR.out AW.out,by repeat' (first|(with_reducible exact Below.refl _ _)|(with_reducible refine bl_alloc ?_ _)|(with_reducible refine bl_drewN ?_ _)|(with_reducible refine bl_drew ?_)|(with_reducible refine bl_set ?_ _ (by simp)))⟩
        · have hpl:(plainF a && plainF b && plainF p)=false:=by simpa using hpl
          rw [hpl] at pl
          have PL:=Lib.hid pl
          clear pl hpl
          have ii:Hid (∀ w,Calls Tryd.prog 21 #[.float .f64 p,.int .i64 0] w fun e w'=>e=.returned (.bool (decide (rg p=9218868437227405312)))∧w=w'):=Lib.hid (fun w=>(isInf_c p 0 pw w).mono fun _ _ h=>⟨by rw [h.1];unfold infS;simp,h.2.symm⟩)
          by_cases pi:rg p=9218868437227405312
          · rw [decide_eq_true pi] at ii
            rw [settle_inf pi] at AR AW
            clear pi pw pr hp za zb ra rb fa fb ha hb hT S2
            go_enter Tryd.func7,Tryd.ntmps7
            go_wp2_with (first|(go_at_call 17;refine (WC.out _).mono ?_;rintro e w' ⟨rfl,rfl⟩)|(go_at_call 18;refine (FN.out _ _ (by simp)).mono ?_;rintro e w' ⟨rfl,rfl⟩)|(go_at_call 24;refine (PL.out _ _ (by simp)).mono ?_;rintro e w' ⟨rfl,rfl⟩)|(go_at_call 21;refine (ii.out _).mono ?_;rintro e w' ⟨rfl,rfl⟩)|(go_at_call 22;refine (SC.out _ _).mono ?_;rintro e w' ⟨rfl,rfl⟩))
            go_ret
            exact ⟨_,rfl,Fo.mk AR.out AW.out,by repeat' (first|(with_reducible exact Below.refl _ _)|(with_reducible refine bl_alloc ?_ _)|(with_reducible refine bl_drewN ?_ _)|(with_reducible refine bl_drew ?_)|(with_reducible refine bl_set ?_ _ (by simp)))⟩
          · rw [decide_eq_false pi] at ii
            have rp:rg p < 9218868437227405312:=by omega
            have OA:Hid (∀ w',Below w.heap.size w w'→Calls Tryd.prog 28 #[.float .f64 a] w' (ZY 1 1074 1023 (val a) w')):=Lib.hid (fun w' h=>rof_c a ha ra w' (hT.below h))
            have OB:Hid (∀ w',Below w.heap.size w w'→Calls Tryd.prog 28 #[.float .f64 b] w' (ZY 1 1074 1023 (val b) w')):=Lib.hid (fun w' h=>rof_c b hb rb w' (hT.below h))
            have OP:Hid (∀ w',Below w.heap.size w w'→Calls Tryd.prog 28 #[.float .f64 p] w' (ZY 1 1074 1023 (val p) w')):=Lib.hid (fun w' h=>rof_c p pw rp w' (hT.below h))
            have TM:Hid (∀ w u v,YS w u 1 1074 1023 (val a)→YS w v 1 1074 1023 (val b)→Calls Tryd.prog 27 #[u,v] w (ZY 2 2148 2046 (val a * val b) w)):=Lib.hid (fun w u v h1 h2=>rtimes_c h1 h2 (by decide) (by decide) (by decide) (by decide))
            have CM:Hid (∀ w u v,YS w u 2 2148 2046 (val a * val b)→YS w v 1 1074 1023 (val p)→Calls Tryd.prog 26 #[u,v] w fun e w'=>e=.returned (.int .i64 (mulS a b p))∧Below w.heap.size w w'):=Lib.hid (fun w u v h1 h2=>(rcmp_c h1 (h2.up 1074)).mono fun _ _ h=>⟨by rw [h.1,cmpZ_sign];rfl,h.2⟩)
            obtain ⟨off,ho⟩:∃ o,mulS a b p=o:=⟨_,rfl⟩
            rw [ho] at AR AW CM
            clear pi pw pr hp za zb ra rb rp fa fb ha hb hT ho S2
            go_enter Tryd.func7,Tryd.ntmps7
            go_wp2_with (first
            | (go_at_call 17;refine (WC.out _).mono ?_;rintro e w' ⟨rfl,rfl⟩)
            | (go_at_call 18;refine (FN.out _ _ (by simp)).mono ?_;rintro e w' ⟨rfl,rfl⟩)
            | (go_at_call 24;refine (PL.out _ _ (by simp)).mono ?_;rintro e w' ⟨rfl,rfl⟩)
            | (go_at_call 21;refine (ii.out _).mono ?_;rintro e w' ⟨rfl,rfl⟩)
            | (go_at_call 28;(with_reducible refine (OA.out _ (by repeat' (first|(with_reducible exact Below.refl _ _)|(with_reducible refine bl_alloc ?_ _)|(with_reducible refine bl_drewN ?_ _)|(with_reducible refine bl_drew ?_)|(with_reducible refine bl_set ?_ _ (by simp))))).mono ?_);rintro e w1 ⟨uA,rfl,hu,hb⟩;have UA:=Lib.hid hu;have B0:=Lib.hid (bl_then (show Below w.heap.size w _ by repeat' (first|(with_reducible exact Below.refl _ _)|(with_reducible refine bl_alloc ?_ _)|(with_reducible refine bl_drewN ?_ _)|(with_reducible refine bl_drew ?_)|(with_reducible refine bl_set ?_ _ (by simp)))) hb);clear hu hb)
            | (go_at_call 28;(with_reducible refine (OB.out _ B0.out).mono ?_);rintro e w2 ⟨uB,rfl,hu,hb⟩;have UA:=Lib.hid (UA.out.below hb);have UB:=Lib.hid hu;have B0:=Lib.hid (bl_then B0.out hb);clear hu hb)
            | (go_at_call 28;(with_reducible refine (OP.out _ B0.out).mono ?_);rintro e w3 ⟨uP,rfl,hu,hb⟩;have UM:=Lib.hid (UM.out.below hb);have UP:=Lib.hid hu;have B0:=Lib.hid (bl_then B0.out hb);clear hu hb)
            | (go_at_call 27;(with_reducible refine (TM.out _ _ _ UA.out UB.out).mono ?_);rintro e w5 ⟨uM,rfl,hu,hb⟩;have UM:=Lib.hid hu;have B0:=Lib.hid (bl_then B0.out hb);clear hu hb)
            | (go_at_call 26;(with_reducible refine (CM.out _ _ _ UM.out UP.out).mono ?_);rintro e w6 ⟨rfl,hb⟩;have B0:=Lib.hid (bl_then B0.out hb);clear hb)
            | (go_at_call 22;refine (SC.out _ _).mono ?_;rintro e w' ⟨rfl,rfl⟩))
            go_ret
            exact ⟨_,rfl,Fo.mk AR.out AW.out,B0.out⟩
  · have hf:(fin a && fin b)=false:=by simpa using hf
    rw [hf] at fn
    have FN:=Lib.hid fn
    have AR:=Lib.hid (mulR_no (m:=m) (okB_n hf))
    clear fn hf ha hb hT
    go_enter Tryd.func7,Tryd.ntmps7
    go_wp2_with (first|(go_at_call 17;refine (WC.out _).mono ?_;rintro e w' ⟨rfl,rfl⟩)|(refine wp_arith .f64 a b rfl rfl rfl ?_;intro r n hr;have HR:=Lib.hid (fo_of hr (fun y hy=>(mul_opt hy).1));clear hr)|(go_at_call 18;refine (FN.out _ _ (by simp)).mono ?_;rintro e w' ⟨rfl,rfl⟩))
    go_ret
    exact ⟨_,rfl,by rw [AR.out];exact HR.out,by repeat' (first|(with_reducible exact Below.refl _ _)|(with_reducible refine bl_alloc ?_ _)|(with_reducible refine bl_drewN ?_ _)|(with_reducible refine bl_drew ?_)|(with_reducible refine bl_set ?_ _ (by simp)))⟩
set_option maxHeartbeats 8000000 in
theorem rdiv_c (a b:Nat) (m:Int) (ha:W64 a) (hb:W64 b) (w:World) (hT:Tab w) :
    Calls Tryd.prog 8 #[.float .f64 a,.float .f64 b,.int .i8 m] w fun e w'=>∃ r,e=.returned (.float .f64 r)∧Fo (divR a b m) r∧Below w.heap.size w w':=by
  have fn:∀ (w:World) (bl:Nat),bl=w.heap.size→Calls Tryd.prog 18 #[.slice (some ⟨bl,0,none⟩) 2 2] (w.alloc (.cells #[.float .f64 a,.float .f64 b] 22)) fun e w'=>e=.returned (.bool (fin a && fin b))∧w.alloc (.cells #[.float .f64 a,.float .f64 b] 22)=w':=fun w bl h=>h ▸
    (finite_c _ [a,b] (by simp) (by simp [ha,hb]) _ (frow2 a b w _)).mono fun _ _ h=>⟨by rw [h.1];simp,h.2⟩
  have WC:=Lib.hid (fun w=>way_c m w)
  by_cases hf:(fin a && fin b)=true
  · have fa:fin a=true:=by cases h:fin a <;> rw [h] at hf <;> simp at hf ⊢
    have fb:fin b=true:=by cases h:fin b <;> rw [h,fa] at hf <;> simp at hf ⊢
    have ra:=fin_r fa
    have rb:=fin_r fb
    rw [hf] at fn
    have FN:=Lib.hid fn
    clear fn hf
    by_cases za:rg a=0
    · have e0:(FloatKind.f64.format.order a 0 == some .eq)=true:=by rw [eqz ha (by omega),decide_eq_true za]
      have AR:=Lib.hid (divR_no (m:=m) (okB_a (b:=b) za))
      clear ha hb hT fa fb ra rb za
      go_enter Tryd.func8,Tryd.ntmps8
      go_wp2_with (first|(go_at_call 17;refine (WC.out _).mono ?_;rintro e w' ⟨rfl,rfl⟩)|(refine wp_arith .f64 a b rfl rfl rfl ?_;intro r n hr;have HR:=Lib.hid (fo_of hr (fun y hy=>(div_opt hy).1));clear hr)|(go_at_call 18;refine (FN.out _ _ (by simp)).mono ?_;rintro e w' ⟨rfl,rfl⟩))
      go_ret
      exact ⟨_,rfl,by rw [AR.out];exact HR.out,by repeat' (first|(with_reducible exact Below.refl _ _)|(with_reducible refine bl_alloc ?_ _)|(with_reducible refine bl_drewN ?_ _)|(with_reducible refine bl_drew ?_)|(with_reducible refine bl_set ?_ _ (by simp)))⟩
    · have e0:(FloatKind.f64.format.order a 0 == some .eq)=false:=by rw [eqz ha (by omega),decide_eq_false za]
      by_cases zb:rg b=0
      · have e1:(FloatKind.f64.format.order b 0 == some .eq)=true:=by rw [eqz hb (by omega),decide_eq_true zb]
        have AR:=Lib.hid (divR_no (m:=m) (okB_b (a:=a) zb))
        clear ha hb hT fa fb ra rb za zb
        go_enter Tryd.func8,Tryd.ntmps8
        go_wp2_with (first|(go_at_call 17;refine (WC.out _).mono ?_;rintro e w' ⟨rfl,rfl⟩)|(refine wp_arith .f64 a b rfl rfl rfl ?_;intro r n hr;have HR:=Lib.hid (fo_of hr (fun y hy=>(div_opt hy).1));clear hr)|(go_at_call 18;refine (FN.out _ _ (by simp)).mono ?_;rintro e w' ⟨rfl,rfl⟩))
        go_ret
        exact ⟨_,rfl,by rw [AR.out];exact HR.out,by repeat' (first|(with_reducible exact Below.refl _ _)|(with_reducible refine bl_alloc ?_ _)|(with_reducible refine bl_drewN ?_ _)|(with_reducible refine bl_drew ?_)|(with_reducible refine bl_set ?_ _ (by simp)))⟩
      · have e1:(FloatKind.f64.format.order b 0 == some .eq)=false:=by rw [eqz hb (by omega),decide_eq_false zb]
        obtain ⟨p,_,hp,pw,_,_,_⟩:=div64x ha hb ra rb zb
        have pr:=(div_opt hp).2
        have AR:=Lib.hid (divR_ok (m:=m) (okB_t fa fb za zb) hp)
        have AW:Hid (W64 (settleW p (divS a b p) (wayI m))):=Lib.hid (settle_w pw pr)
        have d0:∀ (t':TypeId) w,(binOp .quo t' (.float .f64 a) (.float .f64 b)).run Tryd.prog w=.ok (.float .f64 p) w:=fun t' w=>run_float_arith w .quo t' .f64 a b p hp
        have SC:=Lib.hid (fun off w=>settle_c p off (wayI m) pw pr w)
        have pl:∀ (w:World) (bl:Nat),bl=w.heap.size→Calls Tryd.prog 24 #[.slice (some ⟨bl,0,none⟩) 3 3] (w.alloc (.cells #[.float .f64 a,.float .f64 b,.float .f64 p] 22)) fun e w'=>e=.returned (.bool (plainF a && plainF b && plainF p))∧w.alloc (.cells #[.float .f64 a,.float .f64 b,.float .f64 p] 22)=w':=fun w bl h=>h ▸
          (plain_c _ [a,b,p] (by simp) (by simp [ha,hb,pw]) _ (frow3 a b p w _)).mono fun _ _ h=>⟨by rw [h.1];simp [Bool.and_assoc],h.2⟩
        have S2:=Lib.hid (fun w=>sign_c b hb w)
        by_cases hpl:(plainF a && plainF b && plainF p)=true
        · obtain ⟨⟨pa,_⟩,pp⟩:(plainF a=true∧plainF b=true)∧plainF p=true:=by simpa using hpl
          obtain ⟨g1,g2⟩:=plain_rg pp
          obtain ⟨t,ht,tw,ts⟩:=div_side ha hb ra rb zb hp g2 g1 (plain_rg pa).1
          rw [hpl] at pl
          have PL:=Lib.hid pl
          have D:=run_fma64 ht
          have S1:=Lib.hid (fun w=>sign_c t tw w)
          have wm:=sgI_mul t b
          obtain ⟨u,hu⟩:∃ u,sgI t=u:=⟨_,rfl⟩
          obtain ⟨v,hv⟩:∃ v,sgI b=v:=⟨_,rfl⟩
          rw [hu] at S1 ts wm
          rw [hv] at S2 ts wm
          rw [← ts] at AR AW
          clear hu hv ts
          clear pl hpl pa pp g1 g2 ht tw pw pr hp za zb ra rb fa fb ha hb hT
          go_enter Tryd.func8,Tryd.ntmps8
          go_wp2_with (first|(go_at_call 17;refine (WC.out _).mono ?_;rintro e w' ⟨rfl,rfl⟩)|(go_at_call 18;refine (FN.out _ _ (by simp)).mono ?_;rintro e w' ⟨rfl,rfl⟩)|(go_at_call 24;refine (PL.out _ _ (by simp)).mono ?_;rintro e w' ⟨rfl,rfl⟩)|(go_at_call 23;(with_reducible (first|refine (S1.out _).mono ?_|refine (S2.out _).mono ?_));rintro e w' ⟨rfl,rfl⟩)|(go_at_call 22;refine (SC.out _ _).mono ?_;rintro e w' ⟨rfl,rfl⟩))
          go_ret
          exact ⟨_,rfl,Fo.mk AR.out AW.out,by repeat' (first|(with_reducible exact Below.refl _ _)|(with_reducible refine bl_alloc ?_ _)|(with_reducible refine bl_drewN ?_ _)|(with_reducible refine bl_drew ?_)|(with_reducible refine bl_set ?_ _ (by simp)))⟩
        · have hpl:(plainF a && plainF b && plainF p)=false:=by simpa using hpl
          rw [hpl] at pl
          have PL:=Lib.hid pl
          clear pl hpl
          have ii:Hid (∀ w,Calls Tryd.prog 21 #[.float .f64 p,.int .i64 0] w fun e w'=>e=.returned (.bool (decide (rg p=9218868437227405312)))∧w=w'):=Lib.hid (fun w=>(isInf_c p 0 pw w).mono fun _ _ h=>⟨by rw [h.1];unfold infS;simp,h.2.symm⟩)
          by_cases pi:rg p=9218868437227405312
          · rw [decide_eq_true pi] at ii
            rw [settle_inf pi] at AR AW
            clear pi pw pr hp za zb ra rb fa fb ha hb hT S2
            go_enter Tryd.func8,Tryd.ntmps8
            go_wp2_with (first|(go_at_call 17;refine (WC.out _).mono ?_;rintro e w' ⟨rfl,rfl⟩)|(go_at_call 18;refine (FN.out _ _ (by simp)).mono ?_;rintro e w' ⟨rfl,rfl⟩)|(go_at_call 24;refine (PL.out _ _ (by simp)).mono ?_;rintro e w' ⟨rfl,rfl⟩)|(go_at_call 21;refine (ii.out _).mono ?_;rintro e w' ⟨rfl,rfl⟩)|(go_at_call 22;refine (SC.out _ _).mono ?_;rintro e w' ⟨rfl,rfl⟩))
            go_ret
            exact ⟨_,rfl,Fo.mk AR.out AW.out,by repeat' (first|(with_reducible exact Below.refl _ _)|(with_reducible refine bl_alloc ?_ _)|(with_reducible refine bl_drewN ?_ _)|(with_reducible refine bl_drew ?_)|(with_reducible refine bl_set ?_ _ (by simp)))⟩
          · rw [decide_eq_false pi] at ii
            have rp:rg p < 9218868437227405312:=by omega
            have OA:Hid (∀ w',Below w.heap.size w w'→Calls Tryd.prog 28 #[.float .f64 a] w' (ZY 1 1074 1023 (val a) w')):=Lib.hid (fun w' h=>rof_c a ha ra w' (hT.below h))
            have OB:Hid (∀ w',Below w.heap.size w w'→Calls Tryd.prog 28 #[.float .f64 b] w' (ZY 1 1074 1023 (val b) w')):=Lib.hid (fun w' h=>rof_c b hb rb w' (hT.below h))
            have OP:Hid (∀ w',Below w.heap.size w w'→Calls Tryd.prog 28 #[.float .f64 p] w' (ZY 1 1074 1023 (val p) w')):=Lib.hid (fun w' h=>rof_c p pw rp w' (hT.below h))
            have TM:Hid (∀ w u v,YS w u 1 1074 1023 (val p)→YS w v 1 1074 1023 (val b)→Calls Tryd.prog 27 #[u,v] w (ZY 2 2148 2046 (val p * val b) w)):=Lib.hid (fun w u v h1 h2=>rtimes_c h1 h2 (by decide) (by decide) (by decide) (by decide))
            have CM:Hid (∀ w u v,YS w u 1 1074 1023 (val a)→YS w v 2 2148 2046 (val p * val b)→Calls Tryd.prog 26 #[u,v] w fun e w'=>e=.returned (.int .i64 (cmpZ (val a * ((p2 1074:Nat):Int)) (val p * val b)))∧Below w.heap.size w w'):=Lib.hid (fun w u v h1 h2=>rcmp_c (h1.up 1074) h2)
            have wm:=cmp_wrap (val a * ((p2 1074:Nat):Int)) (val p * val b) b
            have ho:cmpZ (val a * ((p2 1074:Nat):Int)) (val p * val b) * sgI b=divS a b p:=by rw [cmpZ_sign,sgI_val (by omega)];rfl
            rw [← ho] at AR AW
            obtain ⟨u,hu⟩:∃ u,cmpZ (val a * ((p2 1074:Nat):Int)) (val p * val b)=u:=⟨_,rfl⟩
            obtain ⟨v,hv⟩:∃ v,sgI b=v:=⟨_,rfl⟩
            rw [hu] at CM AR AW wm
            rw [hv] at S2 AR AW wm
            clear hu hv
            clear pi pw pr hp za zb ra rb rp fa fb ha hb hT ho
            go_enter Tryd.func8,Tryd.ntmps8
            go_wp2_with (first
            | (go_at_call 17;refine (WC.out _).mono ?_;rintro e w' ⟨rfl,rfl⟩)
            | (go_at_call 18;refine (FN.out _ _ (by simp)).mono ?_;rintro e w' ⟨rfl,rfl⟩)
            | (go_at_call 24;refine (PL.out _ _ (by simp)).mono ?_;rintro e w' ⟨rfl,rfl⟩)
            | (go_at_call 21;refine (ii.out _).mono ?_;rintro e w' ⟨rfl,rfl⟩)
            | (go_at_call 28;(with_reducible refine (OA.out _ (by repeat' (first|(with_reducible exact Below.refl _ _)|(with_reducible refine bl_alloc ?_ _)|(with_reducible refine bl_drewN ?_ _)|(with_reducible refine bl_drew ?_)|(with_reducible refine bl_set ?_ _ (by simp))))).mono ?_);rintro e w1 ⟨uA,rfl,hu,hb⟩;have UA:=Lib.hid hu;have B0:=Lib.hid (bl_then (show Below w.heap.size w _ by repeat' (first|(with_reducible exact Below.refl _ _)|(with_reducible refine bl_alloc ?_ _)|(with_reducible refine bl_drewN ?_ _)|(with_reducible refine bl_drew ?_)|(with_reducible refine bl_set ?_ _ (by simp)))) hb);clear hu hb)
            | (go_at_call 28;(with_reducible refine (OP.out _ B0.out).mono ?_);rintro e w2 ⟨uP,rfl,hu,hb⟩;have UA:=Lib.hid (UA.out.below hb);have UP:=Lib.hid hu;have B0:=Lib.hid (bl_then B0.out hb);clear hu hb)
            | (go_at_call 28;(with_reducible refine (OB.out _ B0.out).mono ?_);rintro e w3 ⟨uB,rfl,hu,hb⟩;have UA:=Lib.hid (UA.out.below hb);have UP:=Lib.hid (UP.out.below hb);have UB:=Lib.hid hu;have B0:=Lib.hid (bl_then B0.out hb);clear hu hb)
            | (go_at_call 27;(with_reducible refine (TM.out _ _ _ UP.out UB.out).mono ?_);rintro e w5 ⟨uM,rfl,hu,hb⟩;have UA:=Lib.hid (UA.out.below hb);have UM:=Lib.hid hu;have B0:=Lib.hid (bl_then B0.out hb);clear hu hb)
            | (go_at_call 26;(with_reducible refine (CM.out _ _ _ UA.out UM.out).mono ?_);rintro e w6 ⟨rfl,hb⟩;have B0:=Lib.hid (bl_then B0.out hb);clear hb)
            | (go_at_call 23;(with_reducible refine (S2.out _).mono ?_);rintro e w' ⟨rfl,rfl⟩)
            | (go_at_call 22;refine (SC.out _ _).mono ?_;rintro e w' ⟨rfl,rfl⟩))
            go_ret
            exact ⟨_,rfl,Fo.mk AR.out AW.out,B0.out⟩
  · have hf:(fin a && fin b)=false:=by simpa using hf
    rw [hf] at fn
    have FN:=Lib.hid fn
    have AR:=Lib.hid (divR_no (m:=m) (okB_n hf))
    clear fn hf ha hb hT
    go_enter Tryd.func8,Tryd.ntmps8
    go_wp2_with (first|(go_at_call 17;refine (WC.out _).mono ?_;rintro e w' ⟨rfl,rfl⟩)|(refine wp_arith .f64 a b rfl rfl rfl ?_;intro r n hr;have HR:=Lib.hid (fo_of hr (fun y hy=>(div_opt hy).1));clear hr)|(go_at_call 18;refine (FN.out _ _ (by simp)).mono ?_;rintro e w' ⟨rfl,rfl⟩))
    go_ret
    exact ⟨_,rfl,by rw [AR.out];exact HR.out,by repeat' (first|(with_reducible exact Below.refl _ _)|(with_reducible refine bl_alloc ?_ _)|(with_reducible refine bl_drewN ?_ _)|(with_reducible refine bl_drew ?_)|(with_reducible refine bl_set ?_ _ (by simp)))⟩
end Go.Proofs.YtalhpbilkhdfhaaDoor
namespace Go.Proofs.YtalhpbilkhdfhaaDoor
open Go Go.RowKit GFl Ieee Nv
set_option maxRecDepth 100000
set_option linter.unusedSimpArgs false
attribute [local go_sem] run_f64bits run_f64frombits run_neg_f64
theorem val_z {p:Nat} (h:rg p=0):val p=0:=by rw [val_eq',h,mg_zero _ (by decide)];cases neg p <;> simp
theorem val_sg (x:Nat):(neg x=false→0≤val x)∧(neg x=true→val x≤0):=by
  rw [val_eq']
  constructor <;> intro h <;> rw [h] <;> simp
theorem prod_sg {a b:Nat}:((neg a ^^ neg b)=false→0≤val a * val b)∧((neg a ^^ neg b)=true→val a * val b≤0):=by
  have h1:=val_sg a
  have h2:=val_sg b
  cases ha:neg a <;> cases hb:neg b <;> rw [ha] at h1 <;> rw [hb] at h2
  · exact ⟨fun _=>Int.mul_nonneg (h1.1 rfl) (h2.1 rfl),fun h=>by cases h⟩
  · exact ⟨fun h=>(by cases h),fun _=>Int.mul_nonpos_of_nonneg_of_nonpos (h1.1 rfl) (h2.2 rfl)⟩
  · exact ⟨fun h=>(by cases h),fun _=>Int.mul_nonpos_of_nonpos_of_nonneg (h1.2 rfl) (h2.1 rfl)⟩
  · exact ⟨fun _=>Int.mul_nonneg_of_nonpos_of_nonpos (h1.2 rfl) (h2.2 rfl),fun h=>by cases h⟩
theorem sign_mono {v:Int}:(0≤v→0≤v.sign)∧(v≤0→v.sign≤0):=by
  rcases Int.lt_trichotomy v 0 with h|h|h
  · rw [Int.sign_eq_neg_one_of_neg h];omega
  · subst h;simp
  · rw [Int.sign_eq_one_of_pos h];omega
theorem mulS_z {a b p:Nat} (hn:neg p=(neg a ^^ neg b)) (hz:rg p=0):(neg p=false→0≤mulS a b p)∧(neg p=true→mulS a b p≤0):=by
  unfold mulS
  rw [val_z hz,Int.zero_mul,Int.sub_zero,hn]
  exact ⟨fun h=>sign_mono.1 (prod_sg.1 h),fun h=>sign_mono.2 (prod_sg.2 h)⟩
theorem divS_z {a b p:Nat} (hn:neg p=(neg a ^^ neg b)) (hz:rg p=0):(neg p=false→0≤divS a b p)∧(neg p=true→divS a b p≤0):=by
  unfold divS
  rw [val_z hz,Int.zero_mul,Int.sub_zero,hn,← Int.sign_mul]
  have hp:(0:Int)≤((p2 1074:Nat):Int):=Int.natCast_nonneg _
  have e:val a * ((p2 1074:Nat):Int) * val b=val a * val b * ((p2 1074:Nat):Int):=by ac_rfl
  rw [e]
  exact ⟨fun h=>sign_mono.1 (Int.mul_nonneg (prod_sg.1 h) hp),fun h=>sign_mono.2 (Int.mul_nonpos_of_nonpos_of_nonneg (prod_sg.2 h) hp)⟩
end Go.Proofs.YtalhpbilkhdfhaaDoor
namespace Go.Proofs.YtalhpbilkhdfhaaDoor
open Go Go.RowKit GFl Ieee
set_option maxRecDepth 100000
theorem rung_at {q s:Nat} (h:q < 9007199254740992) (h1:s=0 ∨ 4503599627370496≤q):∃ p,mg B52 p=q * p2 s∧mg B52 (p + 1)=(q + 1) * p2 s∧p % 2=q % 2:=by
  have hB:B52=4503599627370496:=rfl
  by_cases hq:q < B52
  · have hs:s=0:=by omega
    subst hs
    refine ⟨q,?_,?_,rfl⟩
    · rw [mg_small hq,p2_zero,Nat.mul_one]
    · rw [mg_succ B52 q B52_pos,mg_small hq,ulp_small hq,p2_zero,Nat.mul_one]
  · refine ⟨(s + 1) * B52 + (q - B52),?_,?_,?_⟩
    · rw [mg_eq B52 s _ (by omega),p2_def,show B52 + (q - B52)=q by omega]
    · rw [mg_succ B52 _ B52_pos,mg_eq B52 s _ (by omega),ulp_eq B52 s _ (by omega),p2_def,Nat.add_mul q 1,Nat.one_mul,show B52 + (q - B52)=q by omega]
    · rw [hB] at hq ⊢
      omega
structure Ar (N D p:Nat):Prop where
  d:0 < D
  lo:mg B52 p * D≤N
  hi:N < mg B52 (p + 1) * D
def nrR (N D p:Nat):Nat:=if 2 * N < (mg B52 p + mg B52 (p + 1)) * D then p else if (mg B52 p + mg B52 (p + 1)) * D < 2 * N then p + 1 else if p % 2=0 then p else p + 1
theorem nr_is {N D p:Nat} (h:Ar N D p):IsRn B52 N D (nrR N D p):=by
  have hd:=h.d
  have hlo:=h.lo
  have hhi:=h.hi
  have up:=Nat.mul_le_mul_right D (Nat.le_of_lt (mg_lt_succ B52 (p + 1) B52_pos))
  have dn:∀ q,p=q + 1→mg B52 q * D < mg B52 p * D:=fun q e=>Nat.mul_lt_mul_of_pos_right (by rw [e];exact mg_lt_succ B52 q B52_pos) hd
  unfold nrR
  rw [Nat.add_mul]
  by_cases c1:2 * N < mg B52 p * D + mg B52 (p + 1) * D
  · rw [if_pos c1]
    refine ⟨by rw [Nat.add_mul];omega,fun e=>by rw [Nat.add_mul] at e;omega,fun q e=>?_,fun q e e2=>?_⟩
    · have:=dn q e;rw [Nat.add_mul];omega
    · have:=dn q e;rw [Nat.add_mul] at e2;omega
  · rw [if_neg c1]
    by_cases c2:mg B52 p * D + mg B52 (p + 1) * D < 2 * N
    · rw [if_pos c2]
      refine ⟨by rw [Nat.add_mul];omega,fun e=>by rw [Nat.add_mul] at e;omega,fun q e=>?_,fun q e e2=>?_⟩
      · have:q=p:=by omega
        subst this;rw [Nat.add_mul];omega
      · have:q=p:=by omega
        subst this;rw [Nat.add_mul] at e2;omega
    · rw [if_neg c2]
      by_cases c3:p % 2=0
      · rw [if_pos c3]
        refine ⟨by rw [Nat.add_mul];omega,fun _=>c3,fun q e=>?_,fun q e e2=>c3⟩
        have:=dn q e;rw [Nat.add_mul];omega
      · rw [if_neg c3]
        refine ⟨by rw [Nat.add_mul];omega,fun _=>by omega,fun q e=>?_,fun q e e2=>by omega⟩
        have:q=p:=by omega
        subst this;rw [Nat.add_mul];omega
theorem nr_exact {N D p:Nat} (h:Ar N D p) (e:N=mg B52 p * D):nrR N D p=p:=by
  have h1:=h.hi
  unfold nrR
  rw [if_pos (by rw [Nat.add_mul];omega)]
def inw (g:Bool) (m:Int):Prop:=m=3 ∨ (m=1∧g=false) ∨ (m=2∧g=true)
def outw (g:Bool) (m:Int):Prop:=(m=2∧g=false) ∨ (m=1∧g=true)
instance (g:Bool) (m:Int):Decidable (inw g m):=by unfold inw;exact inferInstance
instance (g:Bool) (m:Int):Decidable (outw g m):=by unfold outw;exact inferInstance
def hugeY (g:Bool) (m:Int):Nat:=if inw g m then wd g 9218868437227405311 else wd g 9218868437227405312
theorem step_out {g:Bool} {r:Nat} (h:r < 9218868437227405312):stepW (wd g r) (!g)=wd g (r + 1):=by
  unfold stepW
  rw [wd_rg (by omega),wd_neg (by omega),wd_eq,wd_eq]
  cases g
  · simp only [Bool.not_false,if_true,Bool.false_eq_true,if_false]
    split <;> omega
  · simp only [Bool.not_true,if_true,Bool.false_eq_true,if_false]
    split <;> omega
theorem step_in {g:Bool} {r:Nat} (h:r≤9218868437227405312) (h0:1≤r):stepW (wd g r) g=wd g (r - 1):=by
  unfold stepW
  rw [wd_rg (by omega),wd_neg (by omega),if_neg (by omega),wd_eq,wd_eq]
  cases g <;> simp <;> omega
theorem settle_huge {g:Bool} {o m:Int}:settleW (wd g 9218868437227405312) o m=hugeY g m:=by
  unfold settleW hugeY inw modeW
  rw [wd_rg (by decide),wd_neg (by decide),if_pos rfl]
  cases g
  · by_cases h3:m=3
    · subst h3;simp
    · by_cases h1:m=1
      · subst h1;simp
      · simp [h3,h1]
  · by_cases h3:m=3
    · subst h3;simp
    · by_cases h2:m=2
      · subst h2;simp
      · simp [h3,h2]
theorem settle_size {g:Bool} {r:Nat} {e m:Int} (hr:r < 9218868437227405312) (h0:e < 0→1≤r):settleW (wd g r) (if g=true then -e else e) m=wd g (if 0 < e∧outw g m then r + 1 else if e < 0∧inw g m then r - 1 else r):=by
  have so:=step_out (g:=g) hr
  have si:e < 0→stepW (wd g r) g=wd g (r - 1):=fun h=>step_in (by omega) (h0 h)
  unfold settleW modeW
  rw [wd_rg (by omega),wd_neg (by omega),if_neg (by omega)]
  unfold outw inw
  cases g
  · simp only [Bool.false_eq_true,if_false,and_false,or_false,and_true,Bool.not_false] at so si ⊢
    rcases Int.lt_trichotomy e 0 with h|h|h
    · have n1:¬ 0 < e:=by omega
      simp only [h,n1,true_and,false_and,or_false,if_false,decide_false]
      by_cases h3:m=3
      · subst h3;simp [si h]
      · simp only [h3,if_false,false_or]
        split
        · exact si h
        · rfl
    · subst h;simp
    · have n1:¬ e < 0:=by omega
      simp only [h,n1,true_and,false_and,false_or,if_false,decide_true]
      by_cases h3:m=3
      · subst h3;simp
      · simp only [h3,if_false]
        split
        · exact so
        · rfl
  · simp only [if_true,and_false,false_or,and_true,Bool.not_true,Bool.true_eq_false] at so si ⊢
    rcases Int.lt_trichotomy e 0 with h|h|h
    · have n1:¬ 0 < e:=by omega
      have n2:¬ -e < 0:=by omega
      have n3:0 < -e:=by omega
      simp only [h,n1,n2,n3,true_and,false_and,false_or,if_false,decide_true]
      by_cases h3:m=3
      · subst h3;simp [si h]
      · simp only [h3,if_false,false_or]
        split
        · exact si h
        · rfl
    · subst h;simp
    · have n1:¬ e < 0:=by omega
      have n2:-e < 0:=by omega
      have n3:¬ 0 < -e:=by omega
      simp only [h,n1,n2,n3,true_and,false_and,or_false,if_false,decide_false]
      by_cases h3:m=3
      · subst h3;simp
      · simp only [h3,if_false]
        split
        · exact so
        · rfl
def szR (g:Bool) (m:Int) (N D p:Nat):Nat:=if N=mg B52 p * D then p else if outw g m then p + 1 else if inw g m then p else nrR N D p
def wordY (g:Bool) (m:Int) (r:Nat):Nat:=if r < 9218868437227405312 then wd g r else hugeY g m
end Go.Proofs.YtalhpbilkhdfhaaDoor
namespace Go.Proofs.YtalhpbilkhdfhaaDoor
open Go Go.RowKit Nv GFl
open XBn
set_option maxRecDepth 100000
set_option linter.unusedSimpArgs false
theorem mgI:mg B52 9218868437227405312=p2 2098:=by
  rw [mgINF]
  have:B52=p2 52:=by decide +kernel
  rw [this,← p2_add]
theorem wordY_join {g:Bool} {fr r:Nat} {ex m:Int} {z:Nat} (h:IsJoin g fr ex z) (hr:mg B52 r=fr * p2 (ex + 1074).toNat) (hlt:fr * p2 (ex + 1074).toNat < p2 2098):z=wordY g m r:=by
  have h1:r < 9218868437227405312:=(mg_lt_iff B52_pos).1 (by rw [hr,mgI];exact hlt)
  unfold wordY
  rw [if_pos h1]
  have hl:r < 9223372036854775808:=by omega
  refine w64_ext h.w (wd_w hl) (h.s.trans (wd_neg hl).symm) ?_
  rw [wd_rg hl]
  exact mg_inj B52_pos (h.m.trans hr.symm)
theorem joinMax (g:Bool):IsJoin g 9007199254740991 971 (wd g 9218868437227405311) :=
  ⟨wd_w (by decide),wd_neg (by decide),by rw [wd_rg (by decide)];decide,by rw [wd_rg (by decide),mg_norm (by decide)];decide +kernel⟩
theorem okMax:joinOk 9007199254740991 971:=Or.inr ⟨by decide,by decide,by decide,by decide +kernel⟩
theorem next_max (g:Bool):nextF (wd g 9218868437227405311) (!g)=wd g 9218868437227405312:=by cases g <;> decide
theorem join_y {g:Bool} {fr:Nat} {ex:Int} {z:Nat} (hf:fr < 18446744073709551616) (he1:-9223372036854775808≤ex) (he2:ex≤9223372036854775807) (ok:joinOk fr ex) (hj:IsJoin g fr ex z) (w:World) :
    Calls Tryd.prog 79 #[.agg #[.bool g,.int .u64 (fr:Int),.int .i64 ex]] w fun e w'=>e=.returned (.tuple #[.float .f64 z,.bool true])∧Below w.heap.size w w':=by
  refine (join_c g fr ex hf he1 he2 w).mono ?_
  rintro e w' ⟨y,o,rfl,h1,h2,_,hb⟩
  have h:=h1.2 ok
  subst h
  rw [(h2 rfl).unique hj]
  exact ⟨rfl,hb⟩
set_option maxHeartbeats 4000000 in
theorem dfloat_z {W:World} (g:Bool) (x m:Int):Calls Tryd.prog 57 #[.bool g,.int .u64 0,.int .i64 x,.int .i8 m] W fun e w'=>e=.returned (.float .f64 (wordY g m 0))∧Below W.heap.size W w':=by
  have JC:Hid (∀ w,Calls Tryd.prog 79 #[.agg #[.bool g,.int .u64 0,.int .i64 0]] w fun e w'=>e=.returned (.tuple #[.float .f64 (wordY g m 0),.bool true])∧Below w.heap.size w w'):=Lib.hid (fun w=>join_y (fr:=0) (ex:=0) (by decide) (by decide) (by decide) (Or.inl ⟨rfl,rfl⟩) (isJoin_zero g) w)
  have LC:Hid (∀ w,Calls Tryd.prog 72 #[.int .u64 0] w fun e w'=>e=.returned (.int .i64 0)∧w'=w):=Lib.hid (fun w=>len64_c 0 (by decide) w)
  have B0:=Lib.hid (bl_alloc (Below.refl W.heap.size W) (.cells #[.bool g,.int .u64 0,.int .i64 0] 84))
  have K0:=Lib.hid (kb_new (w:=W) (o:=.cells #[.bool g,.int .u64 0,.int .i64 0] 84) (Below.refl _ _))
  have d0:=kb_cell K0.out (i:=0) rfl
  have d1:=kb_cell K0.out (i:=1) rfl
  have d2:=kb_cell K0.out (i:=2) rfl
  go_enter Tryd.func57,Tryd.ntmps57
  go_upto_region 5 with (fail)
  go_quiet ((go_at_call 72;exact Calls.quiet_of_same (LC.out _)))
  go_wp2_with (go_at_call 79;(with_reducible refine (JC.out _).mono ?_);rintro e w5 ⟨rfl,hb⟩;have HB:=Lib.hid (bl_then (bl_drewN B0.out _) hb);clear hb)
  go_ret
  exact ⟨rfl,HB.out⟩
set_option maxHeartbeats 8000000 in
theorem dfloat_c {W:World} (g:Bool) (s r:Nat) (x m:Int) (hs:s≤9007199254740992) (hx:-1074≤x) (hx2:x≤100000) (hr:mg B52 r=s * p2 (x + 1074).toNat) (hT:Tab W) :
    Calls Tryd.prog 57 #[.bool g,.int .u64 (s:Int),.int .i64 x,.int .i8 m] W fun e w'=>e=.returned (.float .f64 (wordY g m r))∧Below W.heap.size W w':=by
  rcases Nat.eq_zero_or_pos s with h0|h0
  · subst h0
    have:r=0:=mg_inj B52_pos (by rw [hr,Nat.zero_mul,mg_zero _ B52_pos])
    rw [this]
    exact dfloat_z g x m
  · obtain ⟨j,hj,hk⟩:=Lib.ctzFrom_spec 64 s h0 (by omega)
    have hct:Lib.ctz 64 s=Lib.ctzFrom 64 s:=by unfold Lib.ctz;rw [if_neg (by omega)]
    have TZ:Hid (∀ w,Below W.heap.size W w→Calls Tryd.prog 78 #[.int .u64 (s:Int)] w fun e w'=>e=.returned (.int .i64 (Lib.ctz 64 s))∧w'=w):=Lib.hid (fun w hb=>tz64_c s (by omega) w (hT.below hb))
    rw [hct] at TZ
    obtain ⟨k,hkk⟩:∃ k,Lib.ctzFrom 64 s=k:=⟨_,rfl⟩
    rw [hkk] at hj hk TZ
    obtain ⟨fr,hfr⟩:∃ f,2 * j + 1=f:=⟨_,rfl⟩
    rw [hfr] at hj
    have hfs:fr≤s:=by rw [hj];exact Nat.le_mul_of_pos_left _ (Nat.two_pow_pos _)
    have hf53:fr < 9007199254740992:=by
      rcases Nat.lt_or_ge fr 9007199254740992 with h|h
      · exact h
      · exfalso;omega
    have hdv:(s:Int) / 2 ^ min k 64=(fr:Int):=by
      rw [Nat.min_eq_left (by omega)]
      have h1:s / 2 ^ k=fr:=by rw [hj];exact Nat.mul_div_cancel_left _ (Nat.two_pow_pos _)
      rw [← h1,Int.natCast_ediv,Int.natCast_pow];rfl
    have hdn:s / 2 ^ k=fr:=by rw [hj];exact Nat.mul_div_cancel_left _ (Nat.two_pow_pos _)
    have hmul:s * p2 (x + 1074).toNat=fr * p2 (x + k + 1074).toNat:=by
      rw [show (x + (k:Int) + 1074).toNat=k + (x + 1074).toNat by omega,p2_add,hj,p2_def k]
      generalize p2 (x + 1074).toNat=q
      ac_rfl
    rw [hmul] at hr
    have LC:Hid (∀ w,Calls Tryd.prog 72 #[.int .u64 (fr:Int)] w fun e w'=>e=.returned (.int .i64 (bl fr))∧w'=w):=Lib.hid (fun w=>by
      have:=len64_c fr (by omega) w
      rwa [bitLen_bl (by omega)] at this)
    have hb53:bl fr≤53:=bl_le_of (by simpa using hf53)
    have hbe:=bl_lt fr
    have hbl:=bl_le (n:=fr) (by omega)
    have hb1:1≤bl fr:=by rw [bl_pos (by omega:fr ≠ 0)];omega
    have w1:wrap64 (x + (k:Int))=x + (k:Int):=by unfold wrap64;omega
    have w2:wrap64 ((bl fr:Int) + (x + (k:Int)))=(bl fr:Int) + (x + (k:Int)):=by clear w1;unfold wrap64;omega
    have k1:decide ((0:Int) < (s:Int))=true:=decide_eq_true (by omega)
    have k2:decide (0 < s)=true:=decide_eq_true h0
    have B0:=Lib.hid (bl_alloc (Below.refl W.heap.size W) (.cells #[.bool g,.int .u64 0,.int .i64 0] 84))
    have K0:=Lib.hid (kb_new (w:=W) (o:=.cells #[.bool g,.int .u64 0,.int .i64 0] 84) (Below.refl _ _))
    have d0:=kb_cell K0.out (i:=0) rfl
    have d1:=kb_cell K0.out (i:=1) rfl
    have d2:=kb_cell K0.out (i:=2) rfl
    have f0:=kb_frozen K0.out 0
    have f1:=kb_frozen K0.out 1
    have f2:=kb_frozen K0.out 2
    by_cases hfit:(bl fr:Int) + (x + (k:Int))≤1024
    · have hlt:fr * p2 (x + k + 1074).toNat < p2 2098:=by
        have h1:fr * p2 (x + k + 1074).toNat < 2 ^ bl fr * p2 (x + k + 1074).toNat:=Nat.mul_lt_mul_of_pos_right hbe (p2_pos _)
        rw [← p2_def,← p2_add] at h1
        exact Nat.lt_of_lt_of_le h1 (p2_le (by omega))
      have hok:joinOk fr (x + k):=Or.inr ⟨by omega,hf53,by omega,hlt⟩
      have JC:Hid (∀ w,Calls Tryd.prog 79 #[.agg #[.bool g,.int .u64 (fr:Int),.int .i64 (x + (k:Int))]] w fun e w'=>e=.returned (.tuple #[.float .f64 (wordY g m r),.bool true])∧Below w.heap.size w w'):=Lib.hid (fun w=>by
        refine (join_c g fr (x + k) (by omega) (by omega) (by omega) w).mono ?_
        rintro e w' ⟨y,o,rfl,h1,h2,_,hb⟩
        have h:=h1.2 hok
        subst h
        rw [wordY_join (m:=m) (h2 rfl) hr hlt]
        exact ⟨rfl,hb⟩)
      have k3:decide ((1024:Int) < (bl fr:Int) + (x + (k:Int)))=false:=decide_eq_false (by omega)
      obtain ⟨X,hX⟩:∃ X,x + (k:Int)=X:=⟨_,rfl⟩
      have wX:wrap64 (x + (k:Int))=X:=w1.trans hX
      rw [hX] at w2 k3 JC
      obtain ⟨b,hb⟩:∃ b,bl fr=b:=⟨_,rfl⟩
      rw [hb] at LC w2 k3
      clear hs hx hx2 hr hT h0 hj hk hct hkk hfr hfs hf53 hmul hb53 hbe hbl hb1 hfit hlt hok hX hb hdn w1
      go_enter Tryd.func57,Tryd.ntmps57
      go_upto_region 5 with (first
        | (go_at_call 78;(with_reducible refine (TZ.out _ B0.out).mono ?_);rintro e w' ⟨rfl,hw⟩;obtain rfl:=hw.symm;clear hw))
      simp only [hdv,wX]
      have B1:=Lib.hid (bl_alloc (Below.refl W.heap.size W) (.cells #[.bool g,.int .u64 (fr:Int),.int .i64 X] 84))
      have K1:=Lib.hid (kb_new (w:=W) (o:=.cells #[.bool g,.int .u64 (fr:Int),.int .i64 X] 84) (Below.refl _ _))
      obtain ⟨w3,hw3⟩:∃ w,W.alloc (.cells #[.bool g,.int .u64 (fr:Int),.int .i64 X] 84)=w:=⟨_,rfl⟩
      rw [hw3] at B1 K1
      simp only [hw3]
      clear hw3 d0 d1 d2 f0 f1 f2 K0 B0
      have e0:=kb_cell K1.out (i:=0) rfl
      have e1:=kb_cell K1.out (i:=1) rfl
      have e2:=kb_cell K1.out (i:=2) rfl
      go_quiet ((go_at_call 72;exact Calls.quiet_of_same (LC.out _)))
      go_wp2_with (go_at_call 79;(with_reducible refine (JC.out _).mono ?_);rintro e w5 ⟨rfl,hb⟩;have HB:=Lib.hid (bl_then (bl_drewN B1.out _) hb);clear hb)
      go_ret
      exact ⟨rfl,HB.out⟩
    · have hge:p2 2098≤fr * p2 (x + k + 1074).toNat:=by
        have h1:p2 (bl fr - 1) * p2 (x + k + 1074).toNat≤fr * p2 (x + k + 1074).toNat:=Nat.mul_le_mul_right _ (by rw [p2_def];exact hbl)
        rw [← p2_add] at h1
        exact Nat.le_trans (p2_le (by omega)) h1
      have hrI:¬ r < 9218868437227405312:=fun h=>by
        have h1:=(mg_lt_iff B52_pos).2 h
        rw [mgI,hr] at h1
        omega
      have JC:Hid (∀ w,Calls Tryd.prog 79 #[.agg #[.bool g,.int .u64 9007199254740991,.int .i64 971]] w fun e w'=>e=.returned (.tuple #[.float .f64 (wd g 9218868437227405311),.bool true])∧Below w.heap.size w w'):=Lib.hid (fun w=>join_y (fr:=9007199254740991) (by decide) (by decide) (by decide) okMax (joinMax g) w)
      have NX:Hid (∀ w,Calls Tryd.prog 80 #[.float .f64 (wd g 9218868437227405311),.bool (!g)] w fun e w'=>e=.returned (.float .f64 (wd g 9218868437227405312))∧w'=w):=Lib.hid (fun w=>by
        have:=next_c (wd g 9218868437227405311) (!g) (wd_w (by decide)) w
        rwa [next_max] at this)
      have k3:decide ((1024:Int) < (bl fr:Int) + (x + (k:Int)))=true:=decide_eq_true (by omega)
      obtain ⟨X,hX⟩:∃ X,x + (k:Int)=X:=⟨_,rfl⟩
      have wX:wrap64 (x + (k:Int))=X:=w1.trans hX
      rw [hX] at w2 k3
      obtain ⟨b,hb⟩:∃ b,bl fr=b:=⟨_,rfl⟩
      rw [hb] at LC w2 k3
      have j1:∃ b,(m == 1)=b:=⟨_,rfl⟩
      have j2:∃ b,(m == 2)=b:=⟨_,rfl⟩
      have j3:∃ b,(m == 3)=b:=⟨_,rfl⟩
      obtain ⟨b1,j1⟩:=j1
      obtain ⟨b2,j2⟩:=j2
      obtain ⟨b3,j3⟩:=j3
      have KEY:Hid ((if (b3 || ((b1 && !g) || (b2 && g)))=true then wd g 9218868437227405311 else wd g 9218868437227405312)=wordY g m r):=Lib.hid (by
        unfold wordY hugeY inw
        rw [if_neg hrI,← j1,← j2,← j3]
        simp only [Bool.or_eq_true,Bool.and_eq_true,beq_iff_eq,Bool.not_eq_true'])
      clear hs hx hx2 hr hT h0 hj hk hct hkk hfr hfs hf53 hmul hb53 hbe hbl hb1 hfit hge hrI hX hb hdn w1
      rw [← KEY.out]
      clear KEY
      go_enter Tryd.func57,Tryd.ntmps57
      go_upto_region 5 with (first
        | (go_at_call 78;(with_reducible refine (TZ.out _ B0.out).mono ?_);rintro e w' ⟨rfl,hw⟩;obtain rfl:=hw.symm;clear hw))
      simp only [hdv,wX]
      have B1:=Lib.hid (bl_alloc (Below.refl W.heap.size W) (.cells #[.bool g,.int .u64 (fr:Int),.int .i64 X] 84))
      have K1:=Lib.hid (kb_new (w:=W) (o:=.cells #[.bool g,.int .u64 (fr:Int),.int .i64 X] 84) (Below.refl _ _))
      obtain ⟨w3,hw3⟩:∃ w,W.alloc (.cells #[.bool g,.int .u64 (fr:Int),.int .i64 X] 84)=w:=⟨_,rfl⟩
      rw [hw3] at B1 K1
      simp only [hw3]
      clear hw3 d0 d1 d2 f0 f1 f2 K0 B0
      have e0:=kb_cell K1.out (i:=0) rfl
      have e1:=kb_cell K1.out (i:=1) rfl
      have e2:=kb_cell K1.out (i:=2) rfl
      have f0:=kb_frozen K1.out 0
      have f1:=kb_frozen K1.out 1
      have f2:=kb_frozen K1.out 2
      go_quiet ((go_at_call 72;exact Calls.quiet_of_same (LC.out _)))
      go_upto_region 7 with (fail)
      have K2:(w3.drewN nq).heap[W.heap.size]?=some (.cells #[.bool g,.int .u64 (fr:Int),.int .i64 X] 84 (0,0)):=K1.out
      have y2:=rw_setc (rw_setc K2 1 (.int .u64 9007199254740991)) 2 (.int .i64 971)
      have BS:Hid (Below W.heap.size W (((w3.drewN nq).setCell ⟨W.heap.size,1,none⟩ (.int .u64 9007199254740991)).setCell ⟨W.heap.size,2,none⟩ (.int .i64 971))):=Lib.hid (bl_set (bl_set (bl_drewN B1.out _) _ (Nat.le_refl _)) _ (Nat.le_refl _))
      obtain ⟨w4,hw4⟩:∃ w,((w3.drewN nq).setCell ⟨W.heap.size,1,none⟩ (.int .u64 9007199254740991)).setCell ⟨W.heap.size,2,none⟩ (.int .i64 971)=w:=⟨_,rfl⟩
      rw [hw4] at y2 BS
      simp only [hw4]
      clear hw4 e0 e1 e2 f0 f1 f2 K1 K2 B1
      have e0:=kb_cell y2 (i:=0) rfl
      have e1:=kb_cell y2 (i:=1) rfl
      have e2:=kb_cell y2 (i:=2) rfl
      cases g <;> cases b1 <;> cases b2 <;> cases b3
      all_goals
        go_wp2_with (first
          | (go_at_call 79;(with_reducible refine (JC.out _).mono ?_);rintro e w5 ⟨rfl,hb⟩;have HB:=Lib.hid (bl_then BS.out hb);clear hb)
          | (go_at_call 80;refine (NX.out _).mono ?_;rintro e w6 ⟨rfl,hw⟩;obtain rfl:=hw.symm;clear hw))
        go_ret
        exact ⟨rfl,HB.out⟩
end Go.Proofs.YtalhpbilkhdfhaaDoor
namespace Go.Proofs.YtalhpbilkhdfhaaDoor
open Go Go.RowKit Nv GFl
open Go.Proofs.YtalhpbilkhdfhaaDoorW.PrintWords (Kd)
open XBn
set_option maxRecDepth 100000
set_option linter.unusedSimpArgs false
def awayB (m:Int) (g:Bool) (half:Int) (odd:Bool):Bool:=if m=1 then g else if m=2 then !g else if m=3 then false else if half > 0 then true else if half=0 then odd else false
theorem away_f (m:Int) (g:Bool) (half:Int) (odd:Bool):dyad_away.f m g half odd=some (awayB m g half odd):=by
  unfold dyad_away.f awayB
  (repeat' split) <;> rfl
theorem round_up {q rest T f N D p s:Nat} {g:Bool} {m:Int} (hf:0 < f) (hN:N=(q * (2 * T) + rest) * f) (hD:p2 s * D=2 * T * f) (hd:0 < D) (hp:mg B52 p=q * p2 s) (hp1:mg B52 (p + 1)=(q + 1) * p2 s) (par:p % 2=q % 2) (hr:rest < 2 * T) :
    Ar N D p∧szR g m N D p=if (decide (0 < rest) && awayB m g (cmpZ (rest:Int) (T:Int)) (decide (q % 2=1)))=true then p + 1 else p:=by
  have a:mg B52 p * D=q * (2 * T * f):=by rw [hp,Nat.mul_assoc,hD]
  have b:mg B52 (p + 1) * D=q * (2 * T * f) + 2 * T * f:=by rw [hp1,Nat.mul_assoc,hD,Nat.add_mul,Nat.one_mul]
  have n:N=q * (2 * T * f) + rest * f:=by rw [hN,Nat.add_mul,Nat.mul_assoc]
  have r1:rest * f < 2 * T * f:=Nat.mul_lt_mul_of_pos_right hr hf
  have e:2 * T * f=2 * (T * f):=Nat.mul_assoc ..
  have rz:rest * f=0 ↔ rest=0:=by
    constructor
    · intro h
      rcases Nat.mul_eq_zero.1 h with h|h
      · exact h
      · omega
    · rintro rfl;simp
  have rl:rest * f < T * f ↔ rest < T:=Nat.mul_lt_mul_right hf
  have rg':T * f < rest * f ↔ T < rest:=Nat.mul_lt_mul_right hf
  have ar:Ar N D p:=⟨hd,by rw [a,n];omega,by rw [b,n];omega⟩
  refine ⟨ar,?_⟩
  generalize q * (2 * T * f)=A at *
  generalize 2 * T * f=B at *
  generalize T * f=C at *
  generalize rest * f=R at *
  unfold szR
  rw [a]
  by_cases h0:rest=0
  · rw [if_pos (by omega),decide_eq_false (show ¬ 0 < rest by omega)]
    rfl
  · rw [if_neg (by omega),decide_eq_true (show 0 < rest by omega),Bool.true_and]
    unfold awayB
    by_cases c1:m=1
    · rw [if_pos c1]
      subst c1
      cases g
      · have i1:¬ outw false 1:=by unfold outw;simp
        have i2:inw false 1:=by unfold inw;simp
        rw [if_neg i1,if_pos i2];rfl
      · have i1:outw true 1:=by unfold outw;simp
        rw [if_pos i1];rfl
    · rw [if_neg c1]
      by_cases c2:m=2
      · rw [if_pos c2]
        subst c2
        cases g
        · have i1:outw false 2:=by unfold outw;simp
          rw [if_pos i1];rfl
        · have i1:¬ outw true 2:=by unfold outw;simp
          have i2:inw true 2:=by unfold inw;simp
          rw [if_neg i1,if_pos i2];rfl
      · rw [if_neg c2]
        have i1:¬ outw g m:=by unfold outw;omega
        rw [if_neg i1]
        by_cases c3:m=3
        · have i2:inw g m:=by unfold inw;exact Or.inl c3
          rw [if_pos c3,if_pos i2];rfl
        · have i2:¬ inw g m:=by unfold inw;omega
          rw [if_neg c3,if_neg i2]
          unfold nrR
          rw [Nat.add_mul,a,b]
          unfold cmpZ
          rcases Nat.lt_trichotomy rest T with h|h|h
          · have:=rl.2 h
            have e1:(if (rest:Int) < (T:Int) then (-1:Int) else if (T:Int) < (rest:Int) then 1 else 0)=-1:=if_pos (by omega)
            rw [e1,if_pos (by omega)]
            simp
          · have:R=C:=by
              have h1:=mt rl.1 (by omega:¬ rest < T)
              have h2:=mt rg'.1 (by omega:¬ T < rest)
              omega
            have e1:(if (rest:Int) < (T:Int) then (-1:Int) else if (T:Int) < (rest:Int) then 1 else 0)=0:=by rw [if_neg (by omega),if_neg (by omega)]
            rw [e1,if_neg (by omega),if_neg (by omega)]
            simp only [gt_iff_lt,Int.lt_irrefl,if_false,if_true]
            by_cases ho:q % 2=1
            · rw [decide_eq_true ho,if_neg (by omega),if_pos rfl]
            · rw [decide_eq_false ho,if_pos (by omega),if_neg (by simp)]
          · have:=rg'.2 h
            have e1:(if (rest:Int) < (T:Int) then (-1:Int) else if (T:Int) < (rest:Int) then 1 else 0)=1:=by rw [if_neg (by omega),if_pos (by omega)]
            rw [e1,if_neg (by omega),if_pos (by omega)]
            simp
def RndPost (g:Bool) (m:Nat) (x mode:Int) (w:World) (e:Ending) (w':World):Prop:=∃ p,Ar (m * p2 (x + 1074).toNat) (p2 (-1074 - x).toNat) p∧e=.returned (.tuple #[.float .f64 (wordY g mode (szR g mode (m * p2 (x + 1074).toNat) (p2 (-1074 - x).toNat) p)),.int .i64 0])∧Below w.heap.size w w'
theorem round_ex {m:Nat} {x L:Int} (hL:-1074≤L) (hx:L≤x) (hb:L + 53 ≥ x + bl m):∃ p,Ar (m * p2 (x + 1074).toNat) (p2 (-1074 - x).toNat) p∧mg B52 p=m * 2 ^ (x - L).toNat * p2 (L + 1074).toNat∧m * 2 ^ (x - L).toNat < 9007199254740992∧∀ g mode,szR g mode (m * p2 (x + 1074).toNat) (p2 (-1074 - x).toNat) p=p:=by
  have h1:m * 2 ^ (x - L).toNat < 2 ^ 53:=by
    have h2:m * 2 ^ (x - L).toNat < 2 ^ bl m * 2 ^ (x - L).toNat:=Nat.mul_lt_mul_of_pos_right (bl_lt m) (Nat.two_pow_pos _)
    rw [← Nat.pow_add] at h2
    exact Nat.lt_of_lt_of_le h2 (Nat.pow_le_pow_right (by decide) (by omega))
  have h3:(2:Nat) ^ 53=9007199254740992:=by decide
  rw [h3] at h1
  obtain ⟨p,hp⟩:=rep (B:=B52) (m * 2 ^ (x - L).toNat) (L + 1074).toNat (by unfold B52;omega)
  have hN:m * p2 (x + 1074).toNat=mg B52 p * p2 (-1074 - x).toNat:=by
    rw [hp,show (-1074 - x).toNat=0 by omega,p2_zero,Nat.mul_one,← p2_def,Nat.mul_assoc,← p2_add]
    congr 2;omega
  refine ⟨p,⟨p2_pos _,Nat.le_of_eq hN.symm,?_⟩,hp,h1,fun g mode=>?_⟩
  · rw [hN];exact Nat.mul_lt_mul_of_pos_right (mg_lt_succ B52 p B52_pos) (p2_pos _)
  · unfold szR;rw [if_pos hN]
theorem round_cut {m c:Nat} {x L:Int} (hL:L=max (x + bl m - 53) (-1074)) (hc:L - x=(c:Int) + 1):∃ p,m / 2 ^ (c + 1) < 9007199254740992∧Ar (m * p2 (x + 1074).toNat) (p2 (-1074 - x).toNat) p∧mg B52 p=m / 2 ^ (c + 1) * p2 (L + 1074).toNat∧mg B52 (p + 1)=(m / 2 ^ (c + 1) + 1) * p2 (L + 1074).toNat ∧
    ∀ g mode,szR g mode (m * p2 (x + 1074).toNat) (p2 (-1074 - x).toNat) p=if (decide (0 < m % 2 ^ (c + 1)) && awayB mode g (cmpZ ((m % 2 ^ (c + 1):Nat):Int) ((2 ^ c:Nat):Int)) (decide (m / 2 ^ (c + 1) % 2=1)))=true then p + 1 else p:=by
  have q1:m / 2 ^ (c + 1) < 2 ^ 53:=by
    rw [Nat.div_lt_iff_lt_mul (Nat.two_pow_pos _),← Nat.pow_add]
    exact Nat.lt_of_lt_of_le (bl_lt m) (Nat.pow_le_pow_right (by decide) (by omega))
  have h3:(2:Nat) ^ 53=9007199254740992:=by decide
  rw [h3] at q1
  have q2:(L + 1074).toNat=0 ∨ 4503599627370496≤m / 2 ^ (c + 1):=by
    by_cases hl:L=-1074
    · left;omega
    · right
      have hm0:m ≠ 0:=fun e=>by rw [e,bl_zero] at hL;omega
      have h4:(4503599627370496:Nat)=2 ^ 52:=by decide
      rw [h4,Nat.le_div_iff_mul_le (Nat.two_pow_pos _),← Nat.pow_add]
      have hb1:1≤bl m:=by rw [bl_pos hm0];omega
      exact Nat.le_trans (Nat.pow_le_pow_right (by decide) (by omega)) (bl_le hm0)
  obtain ⟨p,hp,hp1,par⟩:=rung_at q1 q2
  have key:∀ g mode,_:=fun g mode=>round_up (g:=g) (m:=mode) (q:=m / 2 ^ (c + 1)) (rest:=m % 2 ^ (c + 1)) (T:=2 ^ c) (f:=p2 (x + 1074).toNat) (N:=m * p2 (x + 1074).toNat) (D:=p2 (-1074 - x).toNat) (p2_pos _) (by
      congr 1
      rw [show 2 * 2 ^ c=2 ^ (c + 1) by rw [Nat.pow_succ,Nat.mul_comm],Nat.mul_comm (m / 2 ^ (c + 1))]
      exact (Nat.div_add_mod m _).symm) (by
      rw [show 2 * 2 ^ c=p2 (c + 1) by rw [p2_def,Nat.pow_succ,Nat.mul_comm],← p2_add,← p2_add]
      congr 1;omega) (p2_pos _) hp hp1 par (by
      rw [show 2 * 2 ^ c=2 ^ (c + 1) by rw [Nat.pow_succ,Nat.mul_comm]]
      exact Nat.mod_lt _ (Nat.two_pow_pos _))
  exact ⟨p,q1,(key true 0).1,hp,hp1,fun g mode=>(key g mode).2⟩
end Go.Proofs.YtalhpbilkhdfhaaDoor
namespace Go.Proofs.YtalhpbilkhdfhaaDoor
open Go Go.RowKit Nv GFl
open Go.Proofs.YtalhpbilkhdfhaaDoorW.PrintWords (Kd)
open XBn
set_option maxRecDepth 100000
set_option linter.unusedSimpArgs false
theorem sg_abs2 (g:Bool) (m:Nat):(sg g m).natAbs=m:=by cases g <;> simp [sg]
set_option maxHeartbeats 8000000 in
theorem dround_c {k:Nat} {g:Bool} {m:Nat} {x:Int} {d:Value} {W:World} (h:Dy W d g m x) (r:DR k g m x) (h0:m ≠ 0) (hk:k≤200) (hx:-13000≤x) (hx2:x≤13000) (mode:Int) (hT:Tab W) :
    Calls Tryd.prog 31 #[d,.int .i8 mode] W (RndPost g m x mode W):=by
  have RC:Hid (∀ w,Below W.heap.size W w→Calls Tryd.prog 48 #[d] w fun e w'=>e=.returned (.bool true)∧Below w.heap.size w w'):=Lib.hid (fun w hb=>yright_c (h.below hb) r)
  have WC:Hid (∀ w,Below W.heap.size W w→Calls Tryd.prog 43 #[d] w fun e w'=>∃ b,e=.returned (pt b)∧w.heap.size≤b∧IntAt w' b (sg g m)∧Below w.heap.size w w'):=Lib.hid (fun w hb=>ywhole_c (h.below hb) r)
  have TC:Hid (∀ w,Below W.heap.size W w→Calls Tryd.prog 50 #[d] w fun e w'=>e=.returned (.int .i64 (x + bl m))∧Below w.heap.size w w'):=Lib.hid (fun w hb=>ytop_c (h.below hb) r h0)
  have sV:=r.sm
  have hml:=r.l
  have hbl:bl m≤64 * k:=bl_le_of r.l
  have FC:Hid (∀ w (s r:Nat) (L:Int),Below W.heap.size W w→s≤9007199254740992→-1074≤L→L≤100000→mg B52 r=s * p2 (L + 1074).toNat→Calls Tryd.prog 57 #[.bool g,.int .u64 (s:Int),.int .i64 L,.int .i8 mode] w fun e w'=>e=.returned (.float .f64 (wordY g mode r))∧Below w.heap.size w w'):=Lib.hid (fun w s r L hb h1 h2 h3 h4=>dfloat_c g s r L mode h1 h2 h3 h4 (hT.below hb))
  have n0:((((lbs m).length:Nat):Int) == 0)=false:=by rw [beq_eq_false_iff_ne];have:=mt (lbs_nil (m:=m)).1 h0;omega
  obtain ⟨A,c,rfl,_⟩:=h
  obtain ⟨n,hn⟩:∃ n,(lbs m).length=n:=⟨_,rfl⟩
  rw [hn] at RC WC TC n0 ⊢
  clear hn r hT
  have B0:=Lib.hid (bl_alloc (Below.refl W.heap.size W) (.cells #[.bool g,.slice A n c,.int .i64 x] 44))
  have K0:=Lib.hid (kb_new (w:=W) (o:=.cells #[.bool g,.slice A n c,.int .i64 x] 44) (Below.refl _ _))
  have d0:=kb_cell K0.out (i:=0) rfl
  have d1:=kb_cell K0.out (i:=1) rfl
  have d2:=kb_cell K0.out (i:=2) rfl
  have aV:(sg g m).natAbs=m:=sg_abs2 g m
  have cA:Hid (∀ w b,IntAt w b (sg g m)→Calls Tryd.prog 49 #[pt b,pt b] w (GPost b (m:Int) w)):=Lib.hid (fun w b h=>by have:=iabs_c h h (by rw [aV];exact sV);rwa [aV] at this)
  obtain ⟨u,hu⟩:∃ u:Int,sg g m=u:=⟨_,rfl⟩
  rw [hu] at WC cA
  obtain ⟨T,hTt⟩:∃ T,x + (bl m:Int)=T:=⟨_,rfl⟩
  have hTb:-13000≤T∧T≤30000:=by omega
  obtain ⟨L,hL⟩:∃ L,max (T - 53) (-1074)=L:=⟨_,rfl⟩
  have hL1:-1074≤L:=by omega
  have hL2:L≤100000:=by omega
  have t1:wrap64 (T - 53)=T - 53:=by unfold wrap64;omega
  have t2:wrap64 (L - x)=L - x:=by clear t1;unfold wrap64;omega
  rw [hTt] at TC
  by_cases hcut:L≤x
  · obtain ⟨p,ar,hp,hq,hs⟩:=round_ex (m:=m) hL1 hcut (by omega)
    have hs:=hs g mode
    obtain ⟨e,he⟩:∃ e,(x - L).toNat=e:=⟨_,rfl⟩
    rw [he] at hp hq
    have l1:decide (L - x≤0)=true:=decide_eq_true (by omega)
    have l2:wrap64 (-(L - x))=(e:Int):=by clear t1 t2;unfold wrap64;omega
    have l3:IntKind.u64.wrap (e:Int)=(e:Int):=by clear t1 t2 l2;rw [IntKind.wrap_u64];omega
    have l4:wrap64 (x - L)=(e:Int):=by clear t1 t2 l2 l3;unfold wrap64;omega
    have cL:Hid (∀ w z b u,IntAt w z u→IntAt w b (m:Int)→Calls Tryd.prog 47 #[pt z,pt b,.int .u64 (e:Int)] w (GPost z ((m * 2 ^ e:Nat):Int) w)):=Lib.hid (fun w z b u h1 h2=>by
      have:=lsh_c h1 h2 e (by omega) (by simpa using sV)
      have e1:(m:Int) * 2 ^ e=((m * 2 ^ e:Nat):Int):=by push_cast;rfl
      rwa [e1] at this)
    have cU:Hid (∀ w z,IntAt w z ((m * 2 ^ e:Nat):Int)→Calls Tryd.prog 51 #[pt z] w fun e' w'=>e'=.returned (.int .u64 ((m * 2 ^ e:Nat):Int))∧w=w'):=Lib.hid (fun w z h=>by
      have:=u64_c h
      rwa [Int.natAbs_natCast,Nat.mod_eq_of_lt (by omega)] at this)
    obtain ⟨q,hqq⟩:∃ q,m * 2 ^ e=q:=⟨_,rfl⟩
    rw [hqq] at hp hq cL cU
    have FD:Hid (∀ w,Below W.heap.size W w→Calls Tryd.prog 57 #[.bool g,.int .u64 (q:Int),.int .i64 L,.int .i8 mode] w fun e w'=>e=.returned (.float .f64 (wordY g mode p))∧Below w.heap.size w w'):=Lib.hid (fun w hb=>FC.out w q p L hb (by omega) hL1 hL2 hp)
    have AR:=Lib.hid ar
    have HS:=Lib.hid hs
    clear FC ar hs hp hq hcut hL1 hL2 hTb hTt hu aV sV hml hbl h0 hk hx hx2 hqq he
    go_enter Tryd.func31,Tryd.ntmps31
    go_upto_region 6 with (first
      | (go_at_call 48;(with_reducible refine (RC.out _ B0.out).mono ?_);rintro e w1 ⟨rfl,hb⟩;have B0:=Lib.hid (bl_then B0.out hb);have K0:=Lib.hid (kb_keep hb K0.out);clear d0 d1 d2;have d0:=kb_cell K0.out (i:=0) rfl;have d1:=kb_cell K0.out (i:=1) rfl;have d2:=kb_cell K0.out (i:=2) rfl;clear hb)
      | (go_at_call 43;(with_reducible refine (WC.out _ B0.out).mono ?_);rintro e w2 ⟨b,rfl,hbs,hI,hb⟩;have I2:=Lib.hid hI;have NB:=Lib.hid (Nat.lt_of_lt_of_le (kb_lt K0.out) hbs);have B2:=Lib.hid (bl_then B0.out hb);have K2:=Lib.hid (kb_keep hb K0.out);clear hb hI hbs))
    go_upto_region 11 with (first
      | (go_at_call 49;(with_reducible refine (cA.out _ _ I2.out).mono ?_);rintro e w3 ⟨rfl,hI,hz⟩;have I3:=Lib.hid hI;have B3:=Lib.hid (Bz.below B2.out hz B2.out.size (Nat.le_of_lt NB.out));have K3:=Lib.hid ((hz.block W.heap.size (kb_lt K2.out) (Nat.ne_of_lt NB.out)).trans K2.out);have d0:=kb_cell K3.out (i:=0) rfl;have d1:=kb_cell K3.out (i:=1) rfl;have d2:=kb_cell K3.out (i:=2) rfl;clear hI hz)
      | (go_at_call 50;(with_reducible refine (TC.out _ B3.out).mono ?_);rintro e w4 ⟨rfl,hb⟩;have I4:=Lib.hid (I3.out.below hb);have B4:=Lib.hid (bl_then B3.out hb);have K4:=Lib.hid (kb_keep hb K3.out);clear d0 d1 d2;have d0:=kb_cell K4.out (i:=0) rfl;have d1:=kb_cell K4.out (i:=1) rfl;have d2:=kb_cell K4.out (i:=2) rfl;clear hb))
    go_wp2_with (first
      | (go_at_call 47;(with_reducible refine (cL.out _ _ _ _ (IntAt.zero w4) (I4.out.alloc _)).mono ?_);rintro e w5 ⟨rfl,hI,hz⟩;have Q5:=Lib.hid hI;have B5:=Lib.hid (Bz.below (bl_alloc B4.out _) hz (Nat.le_trans B4.out.size (by simp)) B4.out.size);have K5:=Lib.hid ((hz.block W.heap.size (kb_lt (kb_alloc (o':=nilI) K4.out)) (Nat.ne_of_lt (kb_lt K4.out))).trans (kb_alloc (o':=nilI) K4.out));clear d0 d1 d2;have d0:=kb_cell K5.out (i:=0) rfl;have d1:=kb_cell K5.out (i:=1) rfl;have d2:=kb_cell K5.out (i:=2) rfl;clear hI hz)
      | (go_at_call 51;(with_reducible refine (cU.out _ _ Q5.out).mono ?_);rintro e w6 ⟨rfl,rfl⟩)
      | (go_at_call 57;(with_reducible refine (FD.out _ B5.out).mono ?_);rintro e w7 ⟨rfl,hb⟩;have B7:=Lib.hid (bl_then B5.out hb);clear hb))
    go_ret2
    exact ⟨p,AR.out,by first|(rw [HS.out];done)|(rw [HS.out];rfl),B7.out⟩
  · obtain ⟨c',hc'⟩:∃ c':Nat,L - x=(c':Int) + 1:=⟨(L - x - 1).toNat,by omega⟩
    obtain ⟨p,hq,ar,hp,hp1,hs⟩:=round_cut (m:=m) (c:=c') (x:=x) (L:=L) (by rw [← hL,← hTt]) hc'
    have hs:=hs g mode
    have hcb:c' + 1≤43000:=by omega
    obtain ⟨Z,hZ⟩:∃ Z:Int,(c':Int) + 1=Z:=⟨_,rfl⟩
    obtain ⟨Y,hY⟩:∃ Y:Int,(c':Int)=Y:=⟨_,rfl⟩
    replace t2:wrap64 (L - x)=Z:=t2.trans (hc'.trans hZ)
    have l1:decide (Z≤0)=false:=decide_eq_false (by omega)
    have l3:IntKind.u64.wrap Z=Z:=by clear t1 t2;rw [IntKind.wrap_u64];omega
    have l4:wrap64 (Z - 1)=Y:=by clear t1 t2 l3;unfold wrap64;omega
    have l5:IntKind.u64.wrap Y=Y:=by clear t1 t2 l3 l4;rw [IntKind.wrap_u64];omega
    have dm:=Nat.div_add_mod m (2 ^ (c' + 1))
    have eq1:m / 2 ^ (c' + 1) * 2 ^ (c' + 1)≤m:=Nat.div_mul_le_self ..
    have cR:Hid (∀ w z b u,IntAt w z u→IntAt w b (m:Int)→Calls Tryd.prog 52 #[pt z,pt b,.int .u64 Z] w (GPost z ((m / 2 ^ (c' + 1):Nat):Int) w)):=Lib.hid (fun w z b u h1 h2=>by
      have:=rsh_c h1 h2 (by simpa using sV) (Int.natCast_nonneg _) (c' + 1) (by omega)
      rwa [Int.toNat_natCast,show ((c' + 1:Nat):Int)=Z by omega] at this)
    obtain ⟨q,hqq⟩:∃ q,m / 2 ^ (c' + 1)=q:=⟨_,rfl⟩
    obtain ⟨rest,hrr⟩:∃ q,m % 2 ^ (c' + 1)=q:=⟨_,rfl⟩
    rw [hqq] at hq hp hp1 hs cR dm eq1
    rw [hrr] at hs dm
    obtain ⟨T2,hT2⟩:∃ q,2 ^ c'=q:=⟨_,rfl⟩
    have sq:Sm ((q:Int).natAbs:Int):=by rw [Int.natAbs_natCast];exact sm_le (k:=k) (Nat.le_trans (Nat.le_mul_of_pos_right _ (Nat.two_pow_pos (c' + 1))) eq1) hml (by omega)
    have sq2:Sm (((q * 2 ^ (c' + 1):Nat):Int).natAbs:Int):=by rw [Int.natAbs_natCast];exact sm_le (k:=k) eq1 hml (by omega)
    have sr:Sm ((rest:Int).natAbs:Int):=by rw [Int.natAbs_natCast];exact sm_le (k:=k) (by rw [← hrr];exact Nat.mod_le _ _) hml (by omega)
    have s1:Sm ((1:Int).natAbs:Int):=sm_pw (x:=1) (k:=1) (by decide) (by decide)
    have cU:Hid (∀ w z,IntAt w z (q:Int)→Calls Tryd.prog 51 #[pt z] w fun e' w'=>e'=.returned (.int .u64 (q:Int))∧w=w'):=Lib.hid (fun w z h=>by
      have:=u64_c h
      rwa [Int.natAbs_natCast,Nat.mod_eq_of_lt (by omega)] at this)
    have cL:Hid (∀ w z,IntAt w z (q:Int)→Calls Tryd.prog 47 #[pt z,pt z,.int .u64 Z] w (GPost z ((q * 2 ^ (c' + 1):Nat):Int) w)):=Lib.hid (fun w z h=>by
      have:=lsh_c h h (c' + 1) (by omega) sq
      rw [show ((c' + 1:Nat):Int)=Z by omega] at this
      have e1:(q:Int) * 2 ^ (c' + 1)=((q * 2 ^ (c' + 1):Nat):Int):=by push_cast;rfl
      rwa [e1] at this)
    have cS:Hid (∀ w b y,IntAt w b (m:Int)→IntAt w y ((q * 2 ^ (c' + 1):Nat):Int)→Calls Tryd.prog 53 #[pt b,pt b,pt y] w (GPost b (rest:Int) w)):=Lib.hid (fun w b y h1 h2=>by
      have:=sub_c h1 h1 h2 (by simpa using sV) sq2
      have e1:(m:Int) - ((q * 2 ^ (c' + 1):Nat):Int)=(rest:Int):=by rw [← dm,Nat.mul_comm (2 ^ (c' + 1)) q];omega
      rwa [e1] at this)
    have cN:Hid (∀ w,Calls Tryd.prog 55 #[.int .i64 1] w (NPost 1 w)):=Lib.hid (fun w=>newInt_c 1 (by decide) (by decide) w)
    have cM:Hid (∀ w z u y,IntAt w z u→IntAt w y 1→Calls Tryd.prog 47 #[pt z,pt y,.int .u64 Y] w (GPost z (T2:Int) w)):=Lib.hid (fun w z u y h1 h2=>by
      have:=lsh_c h1 h2 c' (by omega) s1
      rw [hY] at this
      have e1:(1:Int) * 2 ^ c'=(T2:Int):=by rw [← hT2];push_cast;simp
      rwa [e1] at this)
    have cC:Hid (∀ w b y,IntAt w b (rest:Int)→IntAt w y (T2:Int)→Calls Tryd.prog 54 #[pt b,pt y] w fun e w'=>e=.returned (.int .i64 (cmpZ (rest:Int) (T2:Int)))∧Below w.heap.size w w'):=Lib.hid (fun w b y h1 h2=>icmp_c h1 h2 sr)
    have cG:Hid (∀ w b,IntAt w b (rest:Int)→Calls Tryd.prog 44 #[pt b] w fun e w'=>e=.returned (.int .i64 (sgnI (rest:Int)))∧w=w'):=Lib.hid (fun w b h=>isign_c h)
    rw [hT2] at hs
    have AW:Hid (∀ w,Calls Tryd.prog 56 #[.int .i8 mode,.bool g,.int .i64 (cmpZ (rest:Int) (T2:Int)),.bool (decide (q % 2=1))] w fun e w'=>e=.returned (.bool (awayB mode g (cmpZ (rest:Int) (T2:Int)) (decide (q % 2=1))))∧Below w.heap.size w w'):=Lib.hid (fun w=>(dyad_away.calls mode g _ _ _ w (away_f mode g _ _)).mono fun e w' ⟨h1,h2⟩=>⟨h1,by first|exact h2.below|exact h2⟩)
    have bq:(bits BinOp.and IntKind.u64 (q:Int) 1 == 1)=decide (q % 2=1):=by
      rw [u64_low1 q (by omega),Bool.eq_iff_iff,beq_iff_eq,decide_eq_true_eq];omega
    have gq:decide (0 < sgnI (rest:Int))=decide (0 < rest):=by
      unfold sgnI
      rcases Nat.eq_zero_or_pos rest with h|h
      · subst h;decide
      · rw [if_neg (by omega),if_pos (by omega),decide_eq_true h];decide
    obtain ⟨q1,hq1⟩:∃ q1,q + 1=q1:=⟨_,rfl⟩
    have wq:IntKind.u64.wrap ((q:Int) + 1)=(q1:Int):=by clear t1 t2 l3 l4 l5;rw [IntKind.wrap_u64];omega
    have F0:Hid (∀ w,Below W.heap.size W w→Calls Tryd.prog 57 #[.bool g,.int .u64 (q:Int),.int .i64 L,.int .i8 mode] w fun e w'=>e=.returned (.float .f64 (wordY g mode p))∧Below w.heap.size w w'):=Lib.hid (fun w hb=>FC.out w q p L hb (by omega) hL1 hL2 hp)
    have F1:Hid (∀ w,Below W.heap.size W w→Calls Tryd.prog 57 #[.bool g,.int .u64 (q1:Int),.int .i64 L,.int .i8 mode] w fun e w'=>e=.returned (.float .f64 (wordY g mode (p + 1)))∧Below w.heap.size w w'):=Lib.hid (fun w hb=>FC.out w q1 (p + 1) L hb (by omega) hL1 hL2 (by rw [← hq1];exact hp1))
    have AR:=Lib.hid ar
    have HS:=Lib.hid hs
    obtain ⟨half,hha⟩:∃ v,cmpZ (rest:Int) (T2:Int)=v:=⟨_,rfl⟩
    obtain ⟨odd,hod⟩:∃ v,decide (q % 2=1)=v:=⟨_,rfl⟩
    obtain ⟨bp,hbp⟩:∃ v,decide (0 < rest)=v:=⟨_,rfl⟩
    obtain ⟨sr',hsr⟩:∃ v,sgnI (rest:Int)=v:=⟨_,rfl⟩
    rw [hha] at cC AW HS
    rw [hod] at AW HS bq
    rw [hbp] at HS gq
    rw [hsr] at cG gq
    obtain ⟨aw,haw⟩:∃ v,awayB mode g half odd=v:=⟨_,rfl⟩
    rw [haw] at AW HS
    clear FC ar hs hp hp1 hq hcut hL1 hL2 hTb hTt hu aV sV hml hbl h0 hk hx hx2 hqq hrr hT2 dm eq1 sq sq2 sr s1 hha hod hbp hsr haw hcb hq1 hZ hY hc'
    cases bp <;> cases aw
    all_goals
      go_enter Tryd.func31,Tryd.ntmps31
      go_upto_region 6 with (first
        | (go_at_call 48;(with_reducible refine (RC.out _ B0.out).mono ?_);rintro e w1 ⟨rfl,hb⟩;have B0:=Lib.hid (bl_then B0.out hb);have K0:=Lib.hid (kb_keep hb K0.out);clear d0 d1 d2;have d0:=kb_cell K0.out (i:=0) rfl;have d1:=kb_cell K0.out (i:=1) rfl;have d2:=kb_cell K0.out (i:=2) rfl;clear hb)
        | (go_at_call 43;(with_reducible refine (WC.out _ B0.out).mono ?_);rintro e w2 ⟨b,rfl,hbs,hI,hb⟩;have I2:=Lib.hid hI;have NB:=Lib.hid (Nat.lt_of_lt_of_le (kb_lt K0.out) hbs);have B2:=Lib.hid (bl_then B0.out hb);have K2:=Lib.hid (kb_keep hb K0.out);clear hb hI hbs))
      go_upto_region 12 with (first
        | (go_at_call 49;(with_reducible refine (cA.out _ _ I2.out).mono ?_);rintro e w3 ⟨rfl,hI,hz⟩;have I3:=Lib.hid hI;have B3:=Lib.hid (Bz.below B2.out hz B2.out.size (Nat.le_of_lt NB.out));have K3:=Lib.hid ((hz.block W.heap.size (kb_lt K2.out) (Nat.ne_of_lt NB.out)).trans K2.out);have d0:=kb_cell K3.out (i:=0) rfl;have d1:=kb_cell K3.out (i:=1) rfl;have d2:=kb_cell K3.out (i:=2) rfl;clear hI hz)
        | (go_at_call 50;(with_reducible refine (TC.out _ B3.out).mono ?_);rintro e w4 ⟨rfl,hb⟩;have I4:=Lib.hid (I3.out.below hb);have B4:=Lib.hid (bl_then B3.out hb);have K4:=Lib.hid (kb_keep hb K3.out);clear d0 d1 d2;have d0:=kb_cell K4.out (i:=0) rfl;have d1:=kb_cell K4.out (i:=1) rfl;have d2:=kb_cell K4.out (i:=2) rfl;clear hb))
      go_upto_region 13 with (first
        | (go_at_call 52;(with_reducible refine (cR.out _ _ _ _ (IntAt.zero w4) (I4.out.alloc _)).mono ?_);rintro e w5 ⟨rfl,hI,hz⟩;have Q5:=Lib.hid hI;have I5:=Lib.hid ((I4.out.alloc _).keep (IntAt.zero w4) (Nat.ne_of_lt I4.out.lt) hz);have NQ:=Lib.hid I4.out.lt;have NW:=Lib.hid (kb_lt K4.out);have B5:=Lib.hid (Bz.below (bl_alloc B4.out _) hz (Nat.le_trans B4.out.size (by simp)) B4.out.size);have K5:=Lib.hid ((hz.block W.heap.size (kb_lt (kb_alloc (o':=nilI) K4.out)) (Nat.ne_of_lt (kb_lt K4.out))).trans (kb_alloc (o':=nilI) K4.out));clear hI hz))
      obtain ⟨bq2,hbq⟩:∃ q,w4.heap.size=q:=⟨_,rfl⟩
      rw [hbq] at Q5 NQ NW
      simp only [hbq]
      clear hbq
      go_upto_region 15 with (first
        | (go_at_call 51;(with_reducible refine (cU.out _ _ Q5.out).mono ?_);rintro e w6 ⟨rfl,rfl⟩)
        | (go_at_call 47;(with_reducible refine (cL.out _ _ Q5.out).mono ?_);rintro e w6 ⟨rfl,hI,hz⟩;have Q6:=Lib.hid hI;have I6:=Lib.hid (I5.out.keep Q5.out (Nat.ne_of_lt NQ.out) hz);have B6:=Lib.hid (Bz.below B5.out hz B5.out.size (Nat.le_of_lt NW.out));have K6:=Lib.hid ((hz.block W.heap.size (kb_lt K5.out) (Nat.ne_of_lt NW.out)).trans K5.out);clear hI hz)
        | (go_at_call 53;(with_reducible refine (cS.out _ _ _ I6.out Q6.out).mono ?_);rintro e w7 ⟨rfl,hI,hz⟩;have I7:=Lib.hid hI;have B7:=Lib.hid (Bz.below B6.out hz B6.out.size (Nat.le_of_lt NB.out));have K7:=Lib.hid ((hz.block W.heap.size (kb_lt K6.out) (Nat.ne_of_lt NB.out)).trans K6.out);clear hI hz))
      have R7:=Lib.hid (IntAt.zero w7)
      have NR:=Lib.hid I7.out.lt
      have NZ:=Lib.hid (kb_lt K7.out)
      have I7:=Lib.hid (I7.out.alloc nilI)
      have B7:=Lib.hid (bl_alloc B7.out nilI)
      have K7:=Lib.hid (kb_alloc (o':=nilI) K7.out)
      go_upto_region 16 with (first
        | (go_at_call 55;(with_reducible refine (cN.out _).mono ?_);rintro e w8 ⟨b1,rfl,hbs,hI,hb⟩;have O8:=Lib.hid hI;have I8:=Lib.hid (I7.out.below hb);have R8:=Lib.hid (R7.out.below hb);have B8:=Lib.hid (bl_then B7.out hb);have K8:=Lib.hid (kb_keep hb K7.out);have NS:=Lib.hid (Nat.lt_of_lt_of_le R7.out.lt hbs);clear hI hb hbs)
        | (go_at_call 47;(with_reducible refine (cM.out _ _ _ _ R8.out O8.out).mono ?_);rintro e w9 ⟨rfl,hI,hz⟩;have O9:=Lib.hid hI;have I9:=Lib.hid (I8.out.keep R8.out (Nat.ne_of_lt NR.out) hz);have B9:=Lib.hid (Bz.below B8.out hz B8.out.size (Nat.le_of_lt NZ.out));have K9:=Lib.hid ((hz.block W.heap.size (kb_lt K8.out) (Nat.ne_of_lt NZ.out)).trans K8.out);clear hI hz)
        | (go_at_call 54;(with_reducible refine (cC.out _ _ _ I9.out O9.out).mono ?_);rintro e wA ⟨rfl,hb⟩;have IA:=Lib.hid (I9.out.below hb);have BA:=Lib.hid (bl_then B9.out hb);have KA:=Lib.hid (kb_keep hb K9.out);have d0:=kb_cell KA.out (i:=0) rfl;have d1:=kb_cell KA.out (i:=1) rfl;have d2:=kb_cell KA.out (i:=2) rfl;clear hb))
      have BC:=BA
      have KC:=KA
      go_wp2_with (first
        | (go_at_call 44;(with_reducible refine (cG.out _ _ IA.out).mono ?_);rintro e wB ⟨rfl,rfl⟩)
        | (go_at_call 56;(with_reducible refine (AW.out _).mono ?_);rintro e wC ⟨rfl,hb⟩;have BC:=Lib.hid (bl_then BA.out hb);have KC:=Lib.hid (kb_keep hb KA.out);clear d0 d1 d2;have d0:=kb_cell KC.out (i:=0) rfl;have d1:=kb_cell KC.out (i:=1) rfl;have d2:=kb_cell KC.out (i:=2) rfl;clear hb)
        | (go_at_call 57;(with_reducible (first|refine (F0.out _ BC.out).mono ?_|refine (F1.out _ BC.out).mono ?_));rintro e wD ⟨rfl,hb⟩;have BD:=Lib.hid (bl_then BC.out hb);clear hb))
      go_ret2
      exact ⟨p,AR.out,by first|(rw [HS.out];done)|(rw [HS.out];rfl),BD.out⟩
end Go.Proofs.YtalhpbilkhdfhaaDoor
namespace Go.Proofs.YtalhpbilkhdfhaaDoor
open Go Go.RowKit Nv GFl
open Go.Proofs.YtalhpbilkhdfhaaDoorW.PrintWords (Kd)
open XBn
set_option maxRecDepth 100000
set_option linter.unusedSimpArgs false
theorem add_scale {u t x x':Int} {K:Nat} (z1:u=0→x=0) (z2:t=0→x'=0) (hx:-(K:Int)≤x) (hx':-(K:Int)≤x'):addU u x t x' * ((p2 (addX u x t x' + K).toNat:Nat):Int)=u * ((p2 (x + K).toNat:Nat):Int) + t * ((p2 (x' + K).toNat:Nat):Int)∧-(K:Int)≤addX u x t x':=by
  unfold addU addX
  by_cases c:u=0 ∨ t=0
  · rw [if_pos c,if_pos c]
    by_cases hu:u=0
    · have:=z1 hu
      subst hu this
      rw [Int.zero_add,Int.zero_add,Int.zero_mul,Int.zero_add]
      exact ⟨rfl,hx'⟩
    · have ht:t=0:=c.resolve_left hu
      have:=z2 ht
      subst ht this
      rw [Int.add_zero,Int.add_zero,Int.zero_mul,Int.add_zero]
      exact ⟨rfl,hx⟩
  · rw [if_neg c,if_neg c]
    refine ⟨?_,by omega⟩
    have e1:p2 (x + K).toNat=p2 (x - min x x').toNat * p2 (min x x' + K).toNat:=by rw [← p2_add];congr 1;omega
    have e2:p2 (x' + K).toNat=p2 (x' - min x x').toNat * p2 (min x x' + K).toNat:=by rw [← p2_add];congr 1;omega
    rw [e1,e2,Int.natCast_mul,Int.natCast_mul,← Int.mul_assoc,← Int.mul_assoc,← Int.add_mul,p2_def (x - min x x').toNat,p2_def (x' - min x x').toNat,Int.natCast_pow,Int.natCast_pow]
    rfl
theorem yadd_s {W:World} {u v:Value} {k l K A':Nat} {E E' z z':Int} (h:YS W u k K E z) (h':YS W v l K E' z') (hk:max k l + A' + 1≤200) (hK:K≤13000) (hA:E + K≤64 * A'∧E' + K≤64 * A') (hE:E≤10000∧E'≤10000) (hE0:0≤E∧0≤E') :
    Calls Tryd.prog 29 #[u,v] W (YPost (max k l + A' + 1) K (max E E' + max 0 (E + E') + 64 * (max k l + A' + 1)) (z + z') W):=by
  obtain ⟨g,m,x,h1,r,h2,h3,h4⟩:=h
  obtain ⟨g',m',x',j1,r',j2,j3,j4⟩:=h'
  have y1:sg g m=0→x=0:=fun e=>(r.z (by have:=congrArg Int.natAbs e;rw [sg_abs2] at this;exact this)).2
  have y2:sg g' m'=0→x'=0:=fun e=>(r'.z (by have:=congrArg Int.natAbs e;rw [sg_abs2] at this;exact this)).2
  obtain ⟨q1,q2⟩:=add_scale (K:=K) y1 y2 h2 j2
  rw [h4,j4] at q1
  have q3:addX (sg g m) x (sg g' m') x'≤max E E' + max 0 (E + E'):=by unfold addX;split <;> omega
  refine (yadd1 (A':=A') h1 r j1 r' hk (by omega) (by omega) (by omega)).mono ?_
  rintro e w' ⟨d,G,M,X,rfl,hd,hm,hb⟩
  refine ⟨d,rfl,⟨G,M,X,hd,hm.r,?_⟩,hb⟩
  rw [← q1]
  by_cases h0:addU (sg g m) x (sg g' m') x'=0
  · have e1:=hm.z h0
    obtain ⟨e2,e3⟩:=hm.r.z e1
    refine ⟨by omega,by omega,?_⟩
    rw [h0,e1,Int.natCast_zero,sg_zero,Int.zero_mul,Int.zero_mul]
  · obtain ⟨n1,n2,n3,n4⟩:=hm.n h0
    refine ⟨by omega,by omega,?_⟩
    rw [← n4,Int.mul_assoc,← Int.natCast_mul,← p2_add]
    congr 3
    omega
theorem word_near {N D p:Nat} {g:Bool} (h:Ar N D p):wordY g 0 (szR g 0 N D p)=wd g (min (nrR N D p) 9218868437227405312):=by
  have i1:¬ outw g 0:=by unfold outw;omega
  have i2:¬ inw g 0:=by unfold inw;omega
  have e:szR g 0 N D p=nrR N D p:=by
    unfold szR
    by_cases hx:N=mg B52 p * D
    · rw [if_pos hx,nr_exact h hx]
    · rw [if_neg hx,if_neg i1,if_neg i2]
  rw [e]
  unfold wordY
  split
  · rw [Nat.min_eq_left (by omega)]
  · rw [Nat.min_eq_right (by omega)];unfold hugeY;rw [if_neg i2]
structure NearW (z:Int) (t:Nat):Prop where
  w:W64 t
  r:∃ r,IsRn B52 z.natAbs (p2 1074) r∧rg t=min r 9218868437227405312
  g:neg t=decide (z < 0)
theorem NearW.unique {z:Int} {s t:Nat} (h:NearW z s) (k:NearW z t):s=t:=by
  obtain ⟨r,h1,h2⟩:=h.r
  obtain ⟨r',k1,k2⟩:=k.r
  have:=h1.unique B52_pos (p2_pos _) k1
  exact w64_ext h.w k.w (h.g.trans k.g.symm) (by rw [h2,k2,this])
theorem ynear_s {W:World} {u:Value} {k:Nat} {E z:Int} {t:Nat} (h:YS W u k 2148 E z) (hk:k≤200) (hE:E≤13000) (h0:z ≠ 0) (ht:NearW z t) (hT:Tab W) :
    Calls Tryd.prog 31 #[u,.int .i8 0] W fun e w'=>e=.returned (.tuple #[.float .f64 t,.int .i64 0])∧Below W.heap.size W w':=by
  obtain ⟨g,m,x,h1,r,h2,h3,h4⟩:=h
  have hp:(0:Int) < ((p2 (x + (2148:Nat)).toNat:Nat):Int):=by have:=p2_pos (x + (2148:Nat)).toNat;omega
  have m0:m ≠ 0:=fun e=>h0 (by rw [← h4,e,Int.natCast_zero,sg_zero,Int.zero_mul])
  have ez:z.natAbs=m * p2 (x + (2148:Nat)).toNat:=by rw [← h4,Int.natAbs_mul,sg_abs2,Int.natAbs_natCast]
  have eg:g=decide (z < 0):=by
    rw [← h4]
    cases g
    · have:0≤sg false (m:Int) * ((p2 (x + (2148:Nat)).toNat:Nat):Int):=Int.mul_nonneg (by simp [sg]) (Int.le_of_lt hp)
      rw [decide_eq_false (by omega)]
    · have:sg true (m:Int) * ((p2 (x + (2148:Nat)).toNat:Nat):Int) < 0:=Int.mul_neg_of_neg_of_pos (by simp only [sg,if_true];omega) hp
      rw [decide_eq_true this]
  refine (dround_c h1 r m0 hk (by omega) (by omega) 0 hT).mono ?_
  rintro e w' ⟨p,ar,rfl,hb⟩
  refine ⟨?_,hb⟩
  rw [word_near ar]
  have hnr:=nr_is ar
  have key:NearW z (wd g (min (nrR (m * p2 (x + 1074).toNat) (p2 (-1074 - x).toNat) p) 9218868437227405312)):=by
    have hlt:min (nrR (m * p2 (x + 1074).toNat) (p2 (-1074 - x).toNat) p) 9218868437227405312 < 9223372036854775808:=by omega
    refine ⟨wd_w hlt,⟨_,hnr.cross (p2_pos _) (p2_pos _) ?_,wd_rg hlt⟩,by rw [wd_neg hlt,eg]⟩
    rw [ez,Nat.mul_assoc,Nat.mul_assoc,← p2_add,← p2_add]
    congr 2
    omega
  rw [key.unique ht]
end Go.Proofs.YtalhpbilkhdfhaaDoor
