import Derived.Test.YtalhpbilkhdfhaaDoorTRTn
import Derived.Test.YtalhpbilkhdfhaaDoorTRTm
import Derived.Test.YtalhpbilkhdfhaaDoorTRTj
import Derived.ProofKit
import Derived.Lib.LaidTab
import Derived.SevenTiedAt
import Derived.JoinedOf
import Derived.ChangeSame
import Derived.ChangeVars
namespace Go.Proofs.YtalhpbilkhdfhaaDoor
open Go Go.RowKit GFl Ieee Nv
open XBn
set_option maxRecDepth 100000
set_option linter.unusedSimpArgs false
attribute [local go_sem] run_f64bits run_f64frombits run_neg_f64
def fusZ (a b c:Nat):Int:=val a * val b + val c * ((p2 1074:Nat):Int)
def fusS (a b c t:Nat):Int:=(fusZ a b c - val t * ((p2 1074:Nat):Int)).sign
def fusedR (a b c:Nat) (m:Int):Option Nat :=
  if (fin a && fin b)=true then
    if fin c=true then
      if rg a=0 ∨ rg b=0 then addR (fmul a b) c m
      else if fusZ a b c=0 then some (if m=1 then 9223372036854775808 else 0) else (double.fma a b c).map (fun t=>settleW t (fusS a b c t) (wayI m))
    else if isn c=true then none else some c
  else (double.mul a b).bind (fun p=>double.add p c)
theorem wayI_1 (m:Int):wayI m=1 ↔ m=1:=by unfold wayI;split <;> omega
theorem wayI_w (m:Int):wayI (wayI m)=wayI m:=by unfold wayI;(repeat' split) <;> omega
theorem addR_way (a b:Nat) (m:Int):addR a b (wayI m)=addR a b m:=by
  unfold addR
  have:addW a b (wayI m)=addW a b m:=by
    funext s
    unfold addW
    rw [wayI_w]
    simp only [wayI_1]
  rw [this]
theorem add_nan {x y:Nat} (hx:W64 x) (h:isn x=true):double.add x y=none:=by
  have hr:9218868437227405312 < rg x:=by rw [isn_eq] at h;exact of_decide_eq_true h
  have:=read_nan (f:=double) hx (by rw [d_inf];exact hr) good_double
  unfold Format.add
  rw [this]
  cases double.read y <;> rfl
theorem fus_near {a b c:Nat} (ha:W64 a) (hb:W64 b) (hc:W64 c) (fa:rg a < 9218868437227405312) (fb:rg b < 9218868437227405312) (fc:rg c < 9218868437227405312) (h0:fusZ a b c ≠ 0):∃ t,double.fma a b c=some t∧NearW (fusZ a b c) t∧rg t≤9218868437227405312:=by
  obtain ⟨t,r,h1,h2,h3,h4,h5⟩:=fma64 ha hb hc fa fb fc
  exact ⟨t,h1,⟨h2,⟨r,h4,h3⟩,h5 h0⟩,by omega⟩
theorem fo_nanOr {c:Nat} (hc:W64 c):Fo (if isn c=true then none else some c) c:=by
  by_cases h:isn c=true
  · rw [if_pos h];exact ⟨hc,h⟩
  · rw [if_neg h];exact ⟨hc,rfl⟩
theorem fo_bind {a b c r s:Nat} (h:Fo (double.mul a b) r) (k:Fo (double.add r c) s):Fo ((double.mul a b).bind (fun p=>double.add p c)) s:=by
  obtain ⟨h1,h2⟩:=h
  cases hm:double.mul a b with
  | some p =>
    rw [hm] at h2
    have e:r=p:=h2
    subst e
    exact k
  | none =>
    rw [hm] at h2
    have e:isn r=true:=h2
    rw [add_nan h1 e] at k
    exact k
theorem fadd_c {a b c:Nat} (w:World) (u v:Value) (h1:YS w u 2 2148 2046 (val a * val b)) (h2:YS w v 1 1074 1023 (val c)):Calls Tryd.prog 29 #[u,v] w (YPost 69 2148 9531 (fusZ a b c) w):=yadd_s (A':=66) h1 (h2.up 1074) (by decide) (by decide) (by decide) (by decide) (by decide)
theorem fsign_c {z:Int} (w:World) (u:Value) (h:YS w u 69 2148 9531 z):Calls Tryd.prog 30 #[u] w fun e w'=>e=.returned (.tuple #[.int .i64 (sgnI z),.int .i64 0])∧Below w.heap.size w w':=by
  obtain ⟨g,m',x,h1,r,h2,h3,h4⟩:=h
  have:=ysign_c h1 r
  rwa [← sgnI_mul (sg g m') (p2i (x + (2148:Nat)).toNat),h4] at this
set_option maxHeartbeats 4000000 in
theorem rfused_x (a b c:Nat) (m:Int) (ha:W64 a) (hb:W64 b) (hc:W64 c) (hf:(fin a && fin b)=false) (w:World) :
    Calls Tryd.prog 9 #[.float .f64 a,.float .f64 b,.float .f64 c,.int .i8 m] w fun e w'=>∃ r,e=.returned (.float .f64 r)∧Fo (fusedR a b c m) r∧Below w.heap.size w w':=by
  have FN2:Hid (∀ (w:World) (bl:Nat),bl=w.heap.size→Calls Tryd.prog 18 #[.slice (some ⟨bl,0,none⟩) 2 2] (w.alloc (.cells #[.float .f64 a,.float .f64 b] 22)) fun e w'=>e=.returned (.bool (fin a && fin b))∧w.alloc (.cells #[.float .f64 a,.float .f64 b] 22)=w'):=Lib.hid (fun w bl h=>h ▸
    (finite_c _ [a,b] (by simp) (by simp [ha,hb]) _ (frow2 a b w _)).mono fun _ _ h=>⟨by rw [h.1];simp,h.2⟩)
  have FN3:Hid (∀ (w:World) (bl:Nat),bl=w.heap.size→Calls Tryd.prog 18 #[.slice (some ⟨bl,0,none⟩) 3 3] (w.alloc (.cells #[.float .f64 a,.float .f64 b,.float .f64 c] 22)) fun e w'=>e=.returned (.bool (fin a && fin b && fin c))∧w.alloc (.cells #[.float .f64 a,.float .f64 b,.float .f64 c] 22)=w'):=Lib.hid (fun w bl h=>h ▸
    (finite_c _ [a,b,c] (by simp) (by simp [ha,hb,hc]) _ (frow3 a b c w _)).mono fun _ _ h=>⟨by rw [h.1];simp [Bool.and_assoc],h.2⟩)
  have WC:=Lib.hid (fun w=>way_c m w)
  have AR:Hid (fusedR a b c m=(double.mul a b).bind (fun p=>double.add p c)):=Lib.hid (by unfold fusedR;rw [if_neg (show ¬ (fin a && fin b)=true by rw [hf];simp)])
  rw [hf] at FN2 FN3
  rw [Bool.false_and] at FN3
  clear hf ha hb hc
  go_enter Tryd.func9,Tryd.ntmps9
  go_wp2_with (first
    | (go_at_call 17;refine (WC.out _).mono ?_;rintro e w' ⟨rfl,rfl⟩)
    | (go_at_call 18;(with_reducible refine (FN3.out _ _ (by simp)).mono ?_);rintro e w' ⟨rfl,rfl⟩)
    | (go_at_call 18;(with_reducible refine (FN2.out _ _ (by simp)).mono ?_);rintro e w' ⟨rfl,rfl⟩)
    | (refine wp_arith .f64 a b rfl rfl rfl ?_;intro r1 n1 hr;have HR1:=Lib.hid (fo_of hr (fun y hy=>(mul_opt hy).1));clear hr)
    | (refine wp_arith .f64 r1 c rfl rfl rfl ?_;intro r2 n2 hr;have HR2:=Lib.hid (fo_of hr (fun y hy=>(add_opt hy).1));clear hr))
  go_ret
  exact ⟨_,rfl,by rw [AR.out];exact fo_bind HR1.out HR2.out,by repeat' (first|(with_reducible exact Below.refl _ _)|(with_reducible refine bl_alloc ?_ _)|(with_reducible refine bl_drewN ?_ _)|(with_reducible refine bl_drew ?_)|(with_reducible refine bl_set ?_ _ (by simp)))⟩
set_option maxHeartbeats 4000000 in
theorem rfused_w (a b c:Nat) (m:Int) (ha:W64 a) (hb:W64 b) (hc:W64 c) (hf:(fin a && fin b)=true) (hfc:fin c=false) (w:World) :
    Calls Tryd.prog 9 #[.float .f64 a,.float .f64 b,.float .f64 c,.int .i8 m] w fun e w'=>∃ r,e=.returned (.float .f64 r)∧Fo (fusedR a b c m) r∧Below w.heap.size w w':=by
  have FN2:Hid (∀ (w:World) (bl:Nat),bl=w.heap.size→Calls Tryd.prog 18 #[.slice (some ⟨bl,0,none⟩) 2 2] (w.alloc (.cells #[.float .f64 a,.float .f64 b] 22)) fun e w'=>e=.returned (.bool (fin a && fin b))∧w.alloc (.cells #[.float .f64 a,.float .f64 b] 22)=w'):=Lib.hid (fun w bl h=>h ▸
    (finite_c _ [a,b] (by simp) (by simp [ha,hb]) _ (frow2 a b w _)).mono fun _ _ h=>⟨by rw [h.1];simp,h.2⟩)
  have FN3:Hid (∀ (w:World) (bl:Nat),bl=w.heap.size→Calls Tryd.prog 18 #[.slice (some ⟨bl,0,none⟩) 3 3] (w.alloc (.cells #[.float .f64 a,.float .f64 b,.float .f64 c] 22)) fun e w'=>e=.returned (.bool (fin a && fin b && fin c))∧w.alloc (.cells #[.float .f64 a,.float .f64 b,.float .f64 c] 22)=w'):=Lib.hid (fun w bl h=>h ▸
    (finite_c _ [a,b,c] (by simp) (by simp [ha,hb,hc]) _ (frow3 a b c w _)).mono fun _ _ h=>⟨by rw [h.1];simp [Bool.and_assoc],h.2⟩)
  have WC:=Lib.hid (fun w=>way_c m w)
  have AR:Hid (fusedR a b c m=if isn c=true then none else some c):=Lib.hid (by unfold fusedR;rw [if_pos hf,if_neg (show ¬ fin c=true by rw [hfc];simp)])
  have HF:=Lib.hid (fo_nanOr hc)
  rw [hf] at FN2 FN3
  rw [hfc,Bool.true_and] at FN3
  clear hf hfc ha hb hc
  go_enter Tryd.func9,Tryd.ntmps9
  go_wp2_with (first
    | (go_at_call 17;refine (WC.out _).mono ?_;rintro e w' ⟨rfl,rfl⟩)
    | (go_at_call 18;(with_reducible refine (FN3.out _ _ (by simp)).mono ?_);rintro e w' ⟨rfl,rfl⟩)
    | (go_at_call 18;(with_reducible refine (FN2.out _ _ (by simp)).mono ?_);rintro e w' ⟨rfl,rfl⟩))
  go_ret
  exact ⟨_,rfl,by rw [AR.out];exact HF.out,by repeat' (first|(with_reducible exact Below.refl _ _)|(with_reducible refine bl_alloc ?_ _)|(with_reducible refine bl_drewN ?_ _)|(with_reducible refine bl_drew ?_)|(with_reducible refine bl_set ?_ _ (by simp)))⟩
set_option maxHeartbeats 4000000 in
theorem rfused_a (a b c:Nat) (m:Int) (ha:W64 a) (hb:W64 b) (hc:W64 c) (hf:(fin a && fin b)=true) (hfc:fin c=true) (za:rg a=0) (w:World) :
    Calls Tryd.prog 9 #[.float .f64 a,.float .f64 b,.float .f64 c,.int .i8 m] w fun e w'=>∃ r,e=.returned (.float .f64 r)∧Fo (fusedR a b c m) r∧Below w.heap.size w w':=by
  have FN3:Hid (∀ (w:World) (bl:Nat),bl=w.heap.size→Calls Tryd.prog 18 #[.slice (some ⟨bl,0,none⟩) 3 3] (w.alloc (.cells #[.float .f64 a,.float .f64 b,.float .f64 c] 22)) fun e w'=>e=.returned (.bool (fin a && fin b && fin c))∧w.alloc (.cells #[.float .f64 a,.float .f64 b,.float .f64 c] 22)=w'):=Lib.hid (fun w bl h=>h ▸
    (finite_c _ [a,b,c] (by simp) (by simp [ha,hb,hc]) _ (frow3 a b c w _)).mono fun _ _ h=>⟨by rw [h.1];simp [Bool.and_assoc],h.2⟩)
  have WC:=Lib.hid (fun w=>way_c m w)
  have FT:(fin a && fin b && fin c)=true:=by rw [hf,hfc];rfl
  rw [FT] at FN3
  clear FT
  have fa:fin a=true:=by cases h:fin a <;> rw [h] at hf <;> simp at hf ⊢
  have fb:fin b=true:=by cases h:fin b <;> rw [h,fa] at hf <;> simp at hf ⊢
  have ra:=fin_r fa
  have rb:=fin_r fb
  have rc:=fin_r hfc
  obtain ⟨p,_,hp,pw,_,_,_⟩:=mul64x ha hb ra rb
  have ep:fmul a b=p:=fmul_of hp
  have d0:∀ (t':TypeId) w,(binOp .mul t' (.float .f64 a) (.float .f64 b)).run Tryd.prog w=.ok (.float .f64 p) w:=fun t' w=>run_float_arith w .mul t' .f64 a b p hp
  have AC:Hid (∀ w,Calls Tryd.prog 6 #[.float .f64 p,.float .f64 c,.int .i8 (wayI m)] w fun e w'=>∃ r,e=.returned (.float .f64 r)∧Fo (addR p c (wayI m)) r∧Below w.heap.size w w'):=Lib.hid (fun w=>radd_c p c (wayI m) pw hc w)
  have AR:Hid (fusedR a b c m=addR p c (wayI m)):=Lib.hid (by unfold fusedR;rw [if_pos hf,if_pos hfc,if_pos (Or.inl za),ep,addR_way])
  have e0:(FloatKind.f64.format.order a 0 == some .eq)=true:=by rw [eqz ha (by omega),decide_eq_true za]
  clear hf hfc fa fb ra rb rc hp pw ep ha hb hc za
  go_enter Tryd.func9,Tryd.ntmps9
  go_wp2_with (first
    | (go_at_call 17;refine (WC.out _).mono ?_;rintro e w' ⟨rfl,rfl⟩)
    | (go_at_call 18;(with_reducible refine (FN3.out _ _ (by simp)).mono ?_);rintro e w' ⟨rfl,rfl⟩)
    | (go_at_call 6;(with_reducible refine (AC.out _).mono ?_);rintro e w1 ⟨r,rfl,hr,hb⟩;have HR:=Lib.hid hr;have HB:=Lib.hid (bl_then (show Below w.heap.size w _ by repeat' (first|(with_reducible exact Below.refl _ _)|(with_reducible refine bl_alloc ?_ _)|(with_reducible refine bl_drewN ?_ _)|(with_reducible refine bl_drew ?_)|(with_reducible refine bl_set ?_ _ (by simp)))) hb);clear hr hb))
  go_ret
  exact ⟨r,rfl,by rw [AR.out];exact HR.out,HB.out⟩
set_option maxHeartbeats 4000000 in
theorem rfused_b (a b c:Nat) (m:Int) (ha:W64 a) (hb:W64 b) (hc:W64 c) (hf:(fin a && fin b)=true) (hfc:fin c=true) (za:rg a ≠ 0) (zb:rg b=0) (w:World) :
    Calls Tryd.prog 9 #[.float .f64 a,.float .f64 b,.float .f64 c,.int .i8 m] w fun e w'=>∃ r,e=.returned (.float .f64 r)∧Fo (fusedR a b c m) r∧Below w.heap.size w w':=by
  have FN3:Hid (∀ (w:World) (bl:Nat),bl=w.heap.size→Calls Tryd.prog 18 #[.slice (some ⟨bl,0,none⟩) 3 3] (w.alloc (.cells #[.float .f64 a,.float .f64 b,.float .f64 c] 22)) fun e w'=>e=.returned (.bool (fin a && fin b && fin c))∧w.alloc (.cells #[.float .f64 a,.float .f64 b,.float .f64 c] 22)=w'):=Lib.hid (fun w bl h=>h ▸
    (finite_c _ [a,b,c] (by simp) (by simp [ha,hb,hc]) _ (frow3 a b c w _)).mono fun _ _ h=>⟨by rw [h.1];simp [Bool.and_assoc],h.2⟩)
  have WC:=Lib.hid (fun w=>way_c m w)
  have FT:(fin a && fin b && fin c)=true:=by rw [hf,hfc];rfl
  rw [FT] at FN3
  clear FT
  have fa:fin a=true:=by cases h:fin a <;> rw [h] at hf <;> simp at hf ⊢
  have fb:fin b=true:=by cases h:fin b <;> rw [h,fa] at hf <;> simp at hf ⊢
  have ra:=fin_r fa
  have rb:=fin_r fb
  have rc:=fin_r hfc
  obtain ⟨p,_,hp,pw,_,_,_⟩:=mul64x ha hb ra rb
  have ep:fmul a b=p:=fmul_of hp
  have d0:∀ (t':TypeId) w,(binOp .mul t' (.float .f64 a) (.float .f64 b)).run Tryd.prog w=.ok (.float .f64 p) w:=fun t' w=>run_float_arith w .mul t' .f64 a b p hp
  have AC:Hid (∀ w,Calls Tryd.prog 6 #[.float .f64 p,.float .f64 c,.int .i8 (wayI m)] w fun e w'=>∃ r,e=.returned (.float .f64 r)∧Fo (addR p c (wayI m)) r∧Below w.heap.size w w'):=Lib.hid (fun w=>radd_c p c (wayI m) pw hc w)
  have AR:Hid (fusedR a b c m=addR p c (wayI m)):=Lib.hid (by unfold fusedR;rw [if_pos hf,if_pos hfc,if_pos (Or.inr zb),ep,addR_way])
  have e0:(FloatKind.f64.format.order a 0 == some .eq)=false:=by rw [eqz ha (by omega),decide_eq_false za]
  have e1:(FloatKind.f64.format.order b 0 == some .eq)=true:=by rw [eqz hb (by omega),decide_eq_true zb]
  clear hf hfc fa fb ra rb rc hp pw ep ha hb hc za zb
  go_enter Tryd.func9,Tryd.ntmps9
  go_wp2_with (first
    | (go_at_call 17;refine (WC.out _).mono ?_;rintro e w' ⟨rfl,rfl⟩)
    | (go_at_call 18;(with_reducible refine (FN3.out _ _ (by simp)).mono ?_);rintro e w' ⟨rfl,rfl⟩)
    | (go_at_call 6;(with_reducible refine (AC.out _).mono ?_);rintro e w1 ⟨r,rfl,hr,hb⟩;have HR:=Lib.hid hr;have HB:=Lib.hid (bl_then (show Below w.heap.size w _ by repeat' (first|(with_reducible exact Below.refl _ _)|(with_reducible refine bl_alloc ?_ _)|(with_reducible refine bl_drewN ?_ _)|(with_reducible refine bl_drew ?_)|(with_reducible refine bl_set ?_ _ (by simp)))) hb);clear hr hb))
  go_ret
  exact ⟨r,rfl,by rw [AR.out];exact HR.out,HB.out⟩
set_option maxHeartbeats 4000000 in
theorem rfused_n (a b c:Nat) (m:Int) (ha:W64 a) (hb:W64 b) (hc:W64 c) (hf:(fin a && fin b)=true) (hfc:fin c=true) (za:rg a ≠ 0) (zb:rg b ≠ 0) (hz:fusZ a b c=0) (w:World) (hT:Tab w) :
    Calls Tryd.prog 9 #[.float .f64 a,.float .f64 b,.float .f64 c,.int .i8 m] w fun e w'=>∃ r,e=.returned (.float .f64 r)∧Fo (fusedR a b c m) r∧Below w.heap.size w w':=by
  have FN3:Hid (∀ (w:World) (bl:Nat),bl=w.heap.size→Calls Tryd.prog 18 #[.slice (some ⟨bl,0,none⟩) 3 3] (w.alloc (.cells #[.float .f64 a,.float .f64 b,.float .f64 c] 22)) fun e w'=>e=.returned (.bool (fin a && fin b && fin c))∧w.alloc (.cells #[.float .f64 a,.float .f64 b,.float .f64 c] 22)=w'):=Lib.hid (fun w bl h=>h ▸
    (finite_c _ [a,b,c] (by simp) (by simp [ha,hb,hc]) _ (frow3 a b c w _)).mono fun _ _ h=>⟨by rw [h.1];simp [Bool.and_assoc],h.2⟩)
  have WC:=Lib.hid (fun w=>way_c m w)
  have FT:(fin a && fin b && fin c)=true:=by rw [hf,hfc];rfl
  rw [FT] at FN3
  clear FT
  have fa:fin a=true:=by cases h:fin a <;> rw [h] at hf <;> simp at hf ⊢
  have fb:fin b=true:=by cases h:fin b <;> rw [h,fa] at hf <;> simp at hf ⊢
  have ra:=fin_r fa
  have rb:=fin_r fb
  have rc:=fin_r hfc
  have OA:Hid (∀ w',Below w.heap.size w w'→Calls Tryd.prog 28 #[.float .f64 a] w' (ZY 1 1074 1023 (val a) w')):=Lib.hid (fun w' h=>rof_c a ha ra w' (hT.below h))
  have OB:Hid (∀ w',Below w.heap.size w w'→Calls Tryd.prog 28 #[.float .f64 b] w' (ZY 1 1074 1023 (val b) w')):=Lib.hid (fun w' h=>rof_c b hb rb w' (hT.below h))
  have OC:Hid (∀ w',Below w.heap.size w w'→Calls Tryd.prog 28 #[.float .f64 c] w' (ZY 1 1074 1023 (val c) w')):=Lib.hid (fun w' h=>rof_c c hc rc w' (hT.below h))
  have TM:Hid (∀ w u v,YS w u 1 1074 1023 (val a)→YS w v 1 1074 1023 (val b)→Calls Tryd.prog 27 #[u,v] w (ZY 2 2148 2046 (val a * val b) w)):=Lib.hid (fun w u v h1 h2=>rtimes_c h1 h2 (by decide) (by decide) (by decide) (by decide))
  have AD:Hid (∀ w u v,YS w u 2 2148 2046 (val a * val b)→YS w v 1 1074 1023 (val c)→Calls Tryd.prog 29 #[u,v] w (YPost 69 2148 9531 (fusZ a b c) w)):=Lib.hid fadd_c
  have SG:Hid (∀ w u,YS w u 69 2148 9531 (fusZ a b c)→Calls Tryd.prog 30 #[u] w fun e w'=>e=.returned (.tuple #[.int .i64 (sgnI (fusZ a b c)),.int .i64 0])∧Below w.heap.size w w'):=Lib.hid fsign_c
  have e0:(FloatKind.f64.format.order a 0 == some .eq)=false:=by rw [eqz ha (by omega),decide_eq_false za]
  have e1:(FloatKind.f64.format.order b 0 == some .eq)=false:=by rw [eqz hb (by omega),decide_eq_false zb]
  have AR:Hid (fusedR a b c m=some (if m=1 then 9223372036854775808 else 0)):=Lib.hid (by unfold fusedR;rw [if_pos hf,if_pos hfc,if_neg (fun h=>h.elim za zb),if_pos hz])
  have NC:Hid (∀ w,Calls Tryd.prog 20 #[.int .i8 (wayI m)] w fun e w'=>e=.returned (.float .f64 (if m=1 then 9223372036854775808 else 0))∧w=w'):=Lib.hid (fun w=>by
    have:=none_c (wayI m) w
    simpa only [wayI_1] using this)
  have ZW:Hid (W64 (if m=1 then 9223372036854775808 else 0)):=Lib.hid (by split <;> exact w_const (by decide))
  obtain ⟨Z,hZ⟩:∃ Z:Nat,(if m=1 then 9223372036854775808 else 0)=Z:=⟨_,rfl⟩
  rw [hZ] at AR NC ZW
  have sz:sgnI (fusZ a b c)=0:=by rw [hz];rfl
  rw [sz] at SG
  obtain ⟨z,hzz⟩:∃ z,fusZ a b c=z:=⟨_,rfl⟩
  rw [hzz] at SG AD
  clear hf hfc fa fb ra rb rc ha hb hc hT za zb hz hZ sz hzz
  go_enter Tryd.func9,Tryd.ntmps9
  go_upto_region 8 with (first
    | (go_at_call 17;refine (WC.out _).mono ?_;rintro e w' ⟨rfl,rfl⟩)
    | (go_at_call 18;(with_reducible refine (FN3.out _ _ (by simp)).mono ?_);rintro e w' ⟨rfl,rfl⟩))
  have B0:Hid (Below w.heap.size w (w.alloc (.cells #[.float .f64 a,.float .f64 b,.float .f64 c] 22))):=Lib.hid (by repeat' (first|(with_reducible exact Below.refl _ _)|(with_reducible refine bl_alloc ?_ _)|(with_reducible refine bl_drewN ?_ _)|(with_reducible refine bl_drew ?_)|(with_reducible refine bl_set ?_ _ (by simp))))
  obtain ⟨w0,hw0⟩:∃ w',w.alloc (.cells #[.float .f64 a,.float .f64 b,.float .f64 c] 22)=w':=⟨_,rfl⟩
  rw [hw0] at B0
  simp only [hw0]
  clear hw0
  go_upto_region 9 with (first
    | (go_at_call 28;(with_reducible refine (OA.out _ B0.out).mono ?_);rintro e w1 ⟨uA,rfl,hu,hb⟩;have UA:=Lib.hid hu;have B0:=Lib.hid (bl_then B0.out hb);clear hu hb OA)
    | (go_at_call 28;(with_reducible refine (OB.out _ B0.out).mono ?_);rintro e w2 ⟨uB,rfl,hu,hb⟩;have UA:=Lib.hid (UA.out.below hb);have UB:=Lib.hid hu;have B0:=Lib.hid (bl_then B0.out hb);clear hu hb)
    | (go_at_call 27;(with_reducible refine (TM.out _ _ _ UA.out UB.out).mono ?_);rintro e w3 ⟨uM,rfl,hu,hb⟩;have UM:=Lib.hid hu;have B0:=Lib.hid (bl_then B0.out hb);clear hu hb)
    | (go_at_call 28;(with_reducible refine (OC.out _ B0.out).mono ?_);rintro e w4 ⟨uC,rfl,hu,hb⟩;have UM:=Lib.hid (UM.out.below hb);have UC:=Lib.hid hu;have B0:=Lib.hid (bl_then B0.out hb);clear hu hb)
    | (go_at_call 29;(with_reducible refine (AD.out _ _ _ UM.out UC.out).mono ?_);rintro e w5 ⟨d,rfl,hd,hb⟩;obtain ⟨g,A,n,cc,y,rfl⟩:=hd.agg;have HD:=Lib.hid hd;have B5:=Lib.hid (bl_then B0.out hb);clear hd hb))
  have B6:=Lib.hid (bl_alloc B5.out (.cells #[.bool g,.slice A n cc,.int .i64 y] 44))
  have N6:=Lib.hid (kb_new (w:=w5) (o:=.cells #[.bool g,.slice A n cc,.int .i64 y] 44) (Below.refl _ _))
  have H6:=Lib.hid (HD.out.below (bl_alloc (Below.refl w5.heap.size w5) (.cells #[.bool g,.slice A n cc,.int .i64 y] 44)))
  obtain ⟨w6,hw6⟩:∃ w,w5.alloc (.cells #[.bool g,.slice A n cc,.int .i64 y] 44)=w:=⟨_,rfl⟩
  obtain ⟨b6,hb6⟩:∃ b,w5.heap.size=b:=⟨_,rfl⟩
  rw [hw6] at B6 N6 H6
  rw [hb6] at N6
  simp only [hw6,hb6]
  clear hw6 hb6
  have d1:=kb_cell N6.out (i:=0) rfl
  have d2:=kb_cell N6.out (i:=1) rfl
  have d3:=kb_cell N6.out (i:=2) rfl
  go_wp2_with (first
    | (go_at_call 30;(with_reducible refine (SG.out _ _ H6.out).mono ?_);rintro e w7 ⟨rfl,hb⟩;have B7:=Lib.hid (bl_then B6.out hb);clear hb)
    | (go_at_call 20;(with_reducible refine (NC.out _).mono ?_);rintro e w' ⟨rfl,rfl⟩))
  go_ret
  exact ⟨_,rfl,by rw [AR.out];exact ⟨ZW.out,rfl⟩,B7.out⟩
set_option maxHeartbeats 8000000 in
theorem rfused_i (a b c:Nat) (m:Int) (ha:W64 a) (hb:W64 b) (hc:W64 c) (hf:(fin a && fin b)=true) (hfc:fin c=true) (za:rg a ≠ 0) (zb:rg b ≠ 0) (hz:fusZ a b c ≠ 0) {t0:Nat} (h0:double.fma a b c=some t0) (hi:rg t0=9218868437227405312) (w:World) (hT:Tab w) :
    Calls Tryd.prog 9 #[.float .f64 a,.float .f64 b,.float .f64 c,.int .i8 m] w fun e w'=>∃ r,e=.returned (.float .f64 r)∧Fo (fusedR a b c m) r∧Below w.heap.size w w':=by
  have FN3:Hid (∀ (w:World) (bl:Nat),bl=w.heap.size→Calls Tryd.prog 18 #[.slice (some ⟨bl,0,none⟩) 3 3] (w.alloc (.cells #[.float .f64 a,.float .f64 b,.float .f64 c] 22)) fun e w'=>e=.returned (.bool (fin a && fin b && fin c))∧w.alloc (.cells #[.float .f64 a,.float .f64 b,.float .f64 c] 22)=w'):=Lib.hid (fun w bl h=>h ▸
    (finite_c _ [a,b,c] (by simp) (by simp [ha,hb,hc]) _ (frow3 a b c w _)).mono fun _ _ h=>⟨by rw [h.1];simp [Bool.and_assoc],h.2⟩)
  have WC:=Lib.hid (fun w=>way_c m w)
  have FT:(fin a && fin b && fin c)=true:=by rw [hf,hfc];rfl
  rw [FT] at FN3
  clear FT
  have fa:fin a=true:=by cases h:fin a <;> rw [h] at hf <;> simp at hf ⊢
  have fb:fin b=true:=by cases h:fin b <;> rw [h,fa] at hf <;> simp at hf ⊢
  have ra:=fin_r fa
  have rb:=fin_r fb
  have rc:=fin_r hfc
  have OA:Hid (∀ w',Below w.heap.size w w'→Calls Tryd.prog 28 #[.float .f64 a] w' (ZY 1 1074 1023 (val a) w')):=Lib.hid (fun w' h=>rof_c a ha ra w' (hT.below h))
  have OB:Hid (∀ w',Below w.heap.size w w'→Calls Tryd.prog 28 #[.float .f64 b] w' (ZY 1 1074 1023 (val b) w')):=Lib.hid (fun w' h=>rof_c b hb rb w' (hT.below h))
  have OC:Hid (∀ w',Below w.heap.size w w'→Calls Tryd.prog 28 #[.float .f64 c] w' (ZY 1 1074 1023 (val c) w')):=Lib.hid (fun w' h=>rof_c c hc rc w' (hT.below h))
  have TM:Hid (∀ w u v,YS w u 1 1074 1023 (val a)→YS w v 1 1074 1023 (val b)→Calls Tryd.prog 27 #[u,v] w (ZY 2 2148 2046 (val a * val b) w)):=Lib.hid (fun w u v h1 h2=>rtimes_c h1 h2 (by decide) (by decide) (by decide) (by decide))
  have AD:Hid (∀ w u v,YS w u 2 2148 2046 (val a * val b)→YS w v 1 1074 1023 (val c)→Calls Tryd.prog 29 #[u,v] w (YPost 69 2148 9531 (fusZ a b c) w)):=Lib.hid fadd_c
  have SG:Hid (∀ w u,YS w u 69 2148 9531 (fusZ a b c)→Calls Tryd.prog 30 #[u] w fun e w'=>e=.returned (.tuple #[.int .i64 (sgnI (fusZ a b c)),.int .i64 0])∧Below w.heap.size w w'):=Lib.hid fsign_c
  have e0:(FloatKind.f64.format.order a 0 == some .eq)=false:=by rw [eqz ha (by omega),decide_eq_false za]
  have e1:(FloatKind.f64.format.order b 0 == some .eq)=false:=by rw [eqz hb (by omega),decide_eq_false zb]
  obtain ⟨t,ht,nt,tr⟩:=fus_near ha hb hc ra rb rc hz
  have tw:=nt.w
  obtain rfl:t=t0:=Option.some.inj (ht.symm.trans h0)
  have AR:Hid (fusedR a b c m=some (settleW t (fusS a b c t) (wayI m))):=Lib.hid (by unfold fusedR;rw [if_pos hf,if_pos hfc,if_neg (fun h=>h.elim za zb),if_neg hz,ht];rfl)
  have AW:Hid (W64 (settleW t (fusS a b c t) (wayI m))):=Lib.hid (settle_w tw tr)
  have RN:Hid (∀ w' u,Below w.heap.size w w'→YS w' u 69 2148 9531 (fusZ a b c)→Calls Tryd.prog 31 #[u,.int .i8 0] w' fun e w2=>e=.returned (.tuple #[.float .f64 t,.int .i64 0])∧Below w'.heap.size w' w2):=Lib.hid (fun w' u hb h=>ynear_s h (by decide) (by decide) hz nt (hT.below hb))
  have SC:=Lib.hid (fun off w=>settle_c t off (wayI m) tw tr w)
  have ns:(sgnI (fusZ a b c) == 0)=false:=by rw [beq_eq_false_iff_ne];unfold sgnI;(repeat' split) <;> omega
  have ii:Hid (∀ w,Calls Tryd.prog 21 #[.float .f64 t,.int .i64 0] w fun e w'=>e=.returned (.bool (decide (rg t=9218868437227405312)))∧w=w'):=Lib.hid (fun w=>(isInf_c t 0 tw w).mono fun _ _ h=>⟨by rw [h.1];unfold infS;simp,h.2.symm⟩)
  rw [settle_inf hi] at AR AW
  rw [decide_eq_true hi] at ii
  obtain ⟨sg0,hsg⟩:∃ s,sgnI (fusZ a b c)=s:=⟨_,rfl⟩
  rw [hsg] at SG ns
  obtain ⟨z,hzz⟩:∃ z,fusZ a b c=z:=⟨_,rfl⟩
  rw [hzz] at SG AD RN
  clear hf hfc fa fb ra rb rc ha hb hc hT za zb hz hzz hsg ht h0 nt tw tr hi
  go_enter Tryd.func9,Tryd.ntmps9
  go_upto_region 8 with (first
    | (go_at_call 17;refine (WC.out _).mono ?_;rintro e w' ⟨rfl,rfl⟩)
    | (go_at_call 18;(with_reducible refine (FN3.out _ _ (by simp)).mono ?_);rintro e w' ⟨rfl,rfl⟩))
  have B0:Hid (Below w.heap.size w (w.alloc (.cells #[.float .f64 a,.float .f64 b,.float .f64 c] 22))):=Lib.hid (by repeat' (first|(with_reducible exact Below.refl _ _)|(with_reducible refine bl_alloc ?_ _)|(with_reducible refine bl_drewN ?_ _)|(with_reducible refine bl_drew ?_)|(with_reducible refine bl_set ?_ _ (by simp))))
  obtain ⟨w0,hw0⟩:∃ w',w.alloc (.cells #[.float .f64 a,.float .f64 b,.float .f64 c] 22)=w':=⟨_,rfl⟩
  rw [hw0] at B0
  simp only [hw0]
  clear hw0
  go_upto_region 9 with (first
    | (go_at_call 28;(with_reducible refine (OA.out _ B0.out).mono ?_);rintro e w1 ⟨uA,rfl,hu,hb⟩;have UA:=Lib.hid hu;have B0:=Lib.hid (bl_then B0.out hb);clear hu hb OA)
    | (go_at_call 28;(with_reducible refine (OB.out _ B0.out).mono ?_);rintro e w2 ⟨uB,rfl,hu,hb⟩;have UA:=Lib.hid (UA.out.below hb);have UB:=Lib.hid hu;have B0:=Lib.hid (bl_then B0.out hb);clear hu hb)
    | (go_at_call 27;(with_reducible refine (TM.out _ _ _ UA.out UB.out).mono ?_);rintro e w3 ⟨uM,rfl,hu,hb⟩;have UM:=Lib.hid hu;have B0:=Lib.hid (bl_then B0.out hb);clear hu hb)
    | (go_at_call 28;(with_reducible refine (OC.out _ B0.out).mono ?_);rintro e w4 ⟨uC,rfl,hu,hb⟩;have UM:=Lib.hid (UM.out.below hb);have UC:=Lib.hid hu;have B0:=Lib.hid (bl_then B0.out hb);clear hu hb)
    | (go_at_call 29;(with_reducible refine (AD.out _ _ _ UM.out UC.out).mono ?_);rintro e w5 ⟨d,rfl,hd,hb⟩;obtain ⟨g,A,n,cc,y,rfl⟩:=hd.agg;have HD:=Lib.hid hd;have B5:=Lib.hid (bl_then B0.out hb);clear hd hb))
  have B6:=Lib.hid (bl_alloc B5.out (.cells #[.bool g,.slice A n cc,.int .i64 y] 44))
  have N6:=Lib.hid (kb_new (w:=w5) (o:=.cells #[.bool g,.slice A n cc,.int .i64 y] 44) (Below.refl _ _))
  have H6:=Lib.hid (HD.out.below (bl_alloc (Below.refl w5.heap.size w5) (.cells #[.bool g,.slice A n cc,.int .i64 y] 44)))
  obtain ⟨w6,hw6⟩:∃ w,w5.alloc (.cells #[.bool g,.slice A n cc,.int .i64 y] 44)=w:=⟨_,rfl⟩
  obtain ⟨b6,hb6⟩:∃ b,w5.heap.size=b:=⟨_,rfl⟩
  rw [hw6] at B6 N6 H6
  rw [hb6] at N6
  simp only [hw6,hb6]
  clear hw6 hb6
  have d1:=kb_cell N6.out (i:=0) rfl
  have d2:=kb_cell N6.out (i:=1) rfl
  have d3:=kb_cell N6.out (i:=2) rfl
  go_upto_region 13 with (first
    | (go_at_call 30;(with_reducible refine (SG.out _ _ H6.out).mono ?_);rintro e w7 ⟨rfl,hb⟩;have B7:=Lib.hid (bl_then B6.out hb);have H7:=Lib.hid (H6.out.below hb);have N7:=Lib.hid (kb_keep hb N6.out);clear d1 d2 d3;have d1:=kb_cell N7.out (i:=0) rfl;have d2:=kb_cell N7.out (i:=1) rfl;have d3:=kb_cell N7.out (i:=2) rfl;clear hb)
    | (go_at_call 31;(with_reducible refine (RN.out _ _ B7.out H7.out).mono ?_);rintro e w8 ⟨rfl,hb⟩;have B8:=Lib.hid (bl_then B7.out hb);have H8:=Lib.hid (H7.out.below hb);have N8:=Lib.hid (kb_keep hb N7.out);clear hb))
  clear d1 d2 d3
  go_wp2_with (first
    | (go_at_call 21;refine (ii.out _).mono ?_;rintro e w' ⟨rfl,rfl⟩)
    | (go_at_call 22;refine (SC.out _ _).mono ?_;rintro e w' ⟨rfl,rfl⟩))
  go_ret
  exact ⟨_,rfl,Fo.mk AR.out AW.out,B8.out⟩
set_option maxHeartbeats 8000000 in
theorem rfused_y (a b c:Nat) (m:Int) (ha:W64 a) (hb:W64 b) (hc:W64 c) (hf:(fin a && fin b)=true) (hfc:fin c=true) (za:rg a ≠ 0) (zb:rg b ≠ 0) (hz:fusZ a b c ≠ 0) {t0:Nat} (h0:double.fma a b c=some t0) (hi:rg t0 < 9218868437227405312) (w:World) (hT:Tab w) :
    Calls Tryd.prog 9 #[.float .f64 a,.float .f64 b,.float .f64 c,.int .i8 m] w fun e w'=>∃ r,e=.returned (.float .f64 r)∧Fo (fusedR a b c m) r∧Below w.heap.size w w':=by
  have FN3:Hid (∀ (w:World) (bl:Nat),bl=w.heap.size→Calls Tryd.prog 18 #[.slice (some ⟨bl,0,none⟩) 3 3] (w.alloc (.cells #[.float .f64 a,.float .f64 b,.float .f64 c] 22)) fun e w'=>e=.returned (.bool (fin a && fin b && fin c))∧w.alloc (.cells #[.float .f64 a,.float .f64 b,.float .f64 c] 22)=w'):=Lib.hid (fun w bl h=>h ▸
    (finite_c _ [a,b,c] (by simp) (by simp [ha,hb,hc]) _ (frow3 a b c w _)).mono fun _ _ h=>⟨by rw [h.1];simp [Bool.and_assoc],h.2⟩)
  have WC:=Lib.hid (fun w=>way_c m w)
  have FT:(fin a && fin b && fin c)=true:=by rw [hf,hfc];rfl
  rw [FT] at FN3
  clear FT
  have fa:fin a=true:=by cases h:fin a <;> rw [h] at hf <;> simp at hf ⊢
  have fb:fin b=true:=by cases h:fin b <;> rw [h,fa] at hf <;> simp at hf ⊢
  have ra:=fin_r fa
  have rb:=fin_r fb
  have rc:=fin_r hfc
  have OA:Hid (∀ w',Below w.heap.size w w'→Calls Tryd.prog 28 #[.float .f64 a] w' (ZY 1 1074 1023 (val a) w')):=Lib.hid (fun w' h=>rof_c a ha ra w' (hT.below h))
  have OB:Hid (∀ w',Below w.heap.size w w'→Calls Tryd.prog 28 #[.float .f64 b] w' (ZY 1 1074 1023 (val b) w')):=Lib.hid (fun w' h=>rof_c b hb rb w' (hT.below h))
  have OC:Hid (∀ w',Below w.heap.size w w'→Calls Tryd.prog 28 #[.float .f64 c] w' (ZY 1 1074 1023 (val c) w')):=Lib.hid (fun w' h=>rof_c c hc rc w' (hT.below h))
  have TM:Hid (∀ w u v,YS w u 1 1074 1023 (val a)→YS w v 1 1074 1023 (val b)→Calls Tryd.prog 27 #[u,v] w (ZY 2 2148 2046 (val a * val b) w)):=Lib.hid (fun w u v h1 h2=>rtimes_c h1 h2 (by decide) (by decide) (by decide) (by decide))
  have AD:Hid (∀ w u v,YS w u 2 2148 2046 (val a * val b)→YS w v 1 1074 1023 (val c)→Calls Tryd.prog 29 #[u,v] w (YPost 69 2148 9531 (fusZ a b c) w)):=Lib.hid fadd_c
  have SG:Hid (∀ w u,YS w u 69 2148 9531 (fusZ a b c)→Calls Tryd.prog 30 #[u] w fun e w'=>e=.returned (.tuple #[.int .i64 (sgnI (fusZ a b c)),.int .i64 0])∧Below w.heap.size w w'):=Lib.hid fsign_c
  have e0:(FloatKind.f64.format.order a 0 == some .eq)=false:=by rw [eqz ha (by omega),decide_eq_false za]
  have e1:(FloatKind.f64.format.order b 0 == some .eq)=false:=by rw [eqz hb (by omega),decide_eq_false zb]
  obtain ⟨t,ht,nt,tr⟩:=fus_near ha hb hc ra rb rc hz
  have tw:=nt.w
  obtain rfl:t=t0:=Option.some.inj (ht.symm.trans h0)
  have AR:Hid (fusedR a b c m=some (settleW t (fusS a b c t) (wayI m))):=Lib.hid (by unfold fusedR;rw [if_pos hf,if_pos hfc,if_neg (fun h=>h.elim za zb),if_neg hz,ht];rfl)
  have AW:Hid (W64 (settleW t (fusS a b c t) (wayI m))):=Lib.hid (settle_w tw tr)
  have RN:Hid (∀ w' u,Below w.heap.size w w'→YS w' u 69 2148 9531 (fusZ a b c)→Calls Tryd.prog 31 #[u,.int .i8 0] w' fun e w2=>e=.returned (.tuple #[.float .f64 t,.int .i64 0])∧Below w'.heap.size w' w2):=Lib.hid (fun w' u hb h=>ynear_s h (by decide) (by decide) hz nt (hT.below hb))
  have SC:=Lib.hid (fun off w=>settle_c t off (wayI m) tw tr w)
  have ns:(sgnI (fusZ a b c) == 0)=false:=by rw [beq_eq_false_iff_ne];unfold sgnI;(repeat' split) <;> omega
  have ii:Hid (∀ w,Calls Tryd.prog 21 #[.float .f64 t,.int .i64 0] w fun e w'=>e=.returned (.bool (decide (rg t=9218868437227405312)))∧w=w'):=Lib.hid (fun w=>(isInf_c t 0 tw w).mono fun _ _ h=>⟨by rw [h.1];unfold infS;simp,h.2.symm⟩)
  rw [decide_eq_false (by omega)] at ii
  have CM:Hid (∀ w u v,YS w u 69 2148 9531 (fusZ a b c)→YS w v 1 1074 1023 (val t)→Calls Tryd.prog 26 #[u,v] w fun e w'=>e=.returned (.int .i64 (fusS a b c t))∧Below w.heap.size w w'):=Lib.hid (fun w u v h1 h2=>(rcmp_c h1 (h2.up 1074)).mono fun _ _ h=>⟨by rw [h.1,cmpZ_sign];rfl,h.2⟩)
  have OT:Hid (∀ w',Below w.heap.size w w'→Calls Tryd.prog 28 #[.float .f64 t] w' (ZY 1 1074 1023 (val t) w')):=Lib.hid (fun w' h=>rof_c t tw hi w' (hT.below h))
  obtain ⟨off,ho⟩:∃ o,fusS a b c t=o:=⟨_,rfl⟩
  rw [ho] at AR AW CM
  obtain ⟨sg0,hsg⟩:∃ s,sgnI (fusZ a b c)=s:=⟨_,rfl⟩
  rw [hsg] at SG ns
  obtain ⟨z,hzz⟩:∃ z,fusZ a b c=z:=⟨_,rfl⟩
  rw [hzz] at SG AD RN CM
  clear hf hfc fa fb ra rb rc ha hb hc hT za zb hz hzz hsg ht h0 nt tw tr hi ho
  go_enter Tryd.func9,Tryd.ntmps9
  go_upto_region 8 with (first
    | (go_at_call 17;refine (WC.out _).mono ?_;rintro e w' ⟨rfl,rfl⟩)
    | (go_at_call 18;(with_reducible refine (FN3.out _ _ (by simp)).mono ?_);rintro e w' ⟨rfl,rfl⟩))
  have B0:Hid (Below w.heap.size w (w.alloc (.cells #[.float .f64 a,.float .f64 b,.float .f64 c] 22))):=Lib.hid (by repeat' (first|(with_reducible exact Below.refl _ _)|(with_reducible refine bl_alloc ?_ _)|(with_reducible refine bl_drewN ?_ _)|(with_reducible refine bl_drew ?_)|(with_reducible refine bl_set ?_ _ (by simp))))
  obtain ⟨w0,hw0⟩:∃ w',w.alloc (.cells #[.float .f64 a,.float .f64 b,.float .f64 c] 22)=w':=⟨_,rfl⟩
  rw [hw0] at B0
  simp only [hw0]
  clear hw0
  go_upto_region 9 with (first
    | (go_at_call 28;(with_reducible refine (OA.out _ B0.out).mono ?_);rintro e w1 ⟨uA,rfl,hu,hb⟩;have UA:=Lib.hid hu;have B0:=Lib.hid (bl_then B0.out hb);clear hu hb OA)
    | (go_at_call 28;(with_reducible refine (OB.out _ B0.out).mono ?_);rintro e w2 ⟨uB,rfl,hu,hb⟩;have UA:=Lib.hid (UA.out.below hb);have UB:=Lib.hid hu;have B0:=Lib.hid (bl_then B0.out hb);clear hu hb)
    | (go_at_call 27;(with_reducible refine (TM.out _ _ _ UA.out UB.out).mono ?_);rintro e w3 ⟨uM,rfl,hu,hb⟩;have UM:=Lib.hid hu;have B0:=Lib.hid (bl_then B0.out hb);clear hu hb)
    | (go_at_call 28;(with_reducible refine (OC.out _ B0.out).mono ?_);rintro e w4 ⟨uC,rfl,hu,hb⟩;have UM:=Lib.hid (UM.out.below hb);have UC:=Lib.hid hu;have B0:=Lib.hid (bl_then B0.out hb);clear hu hb)
    | (go_at_call 29;(with_reducible refine (AD.out _ _ _ UM.out UC.out).mono ?_);rintro e w5 ⟨d,rfl,hd,hb⟩;obtain ⟨g,A,n,cc,y,rfl⟩:=hd.agg;have HD:=Lib.hid hd;have B5:=Lib.hid (bl_then B0.out hb);clear hd hb))
  have B6:=Lib.hid (bl_alloc B5.out (.cells #[.bool g,.slice A n cc,.int .i64 y] 44))
  have N6:=Lib.hid (kb_new (w:=w5) (o:=.cells #[.bool g,.slice A n cc,.int .i64 y] 44) (Below.refl _ _))
  have H6:=Lib.hid (HD.out.below (bl_alloc (Below.refl w5.heap.size w5) (.cells #[.bool g,.slice A n cc,.int .i64 y] 44)))
  obtain ⟨w6,hw6⟩:∃ w,w5.alloc (.cells #[.bool g,.slice A n cc,.int .i64 y] 44)=w:=⟨_,rfl⟩
  obtain ⟨b6,hb6⟩:∃ b,w5.heap.size=b:=⟨_,rfl⟩
  rw [hw6] at B6 N6 H6
  rw [hb6] at N6
  simp only [hw6,hb6]
  clear hw6 hb6
  have d1:=kb_cell N6.out (i:=0) rfl
  have d2:=kb_cell N6.out (i:=1) rfl
  have d3:=kb_cell N6.out (i:=2) rfl
  go_upto_region 13 with (first
    | (go_at_call 30;(with_reducible refine (SG.out _ _ H6.out).mono ?_);rintro e w7 ⟨rfl,hb⟩;have B7:=Lib.hid (bl_then B6.out hb);have H7:=Lib.hid (H6.out.below hb);have N7:=Lib.hid (kb_keep hb N6.out);clear d1 d2 d3;have d1:=kb_cell N7.out (i:=0) rfl;have d2:=kb_cell N7.out (i:=1) rfl;have d3:=kb_cell N7.out (i:=2) rfl;clear hb)
    | (go_at_call 31;(with_reducible refine (RN.out _ _ B7.out H7.out).mono ?_);rintro e w8 ⟨rfl,hb⟩;have B8:=Lib.hid (bl_then B7.out hb);have H8:=Lib.hid (H7.out.below hb);have N8:=Lib.hid (kb_keep hb N7.out);clear hb))
  clear d1 d2 d3
  go_upto_region 15 with (go_at_call 21;refine (ii.out _).mono ?_;rintro e w' ⟨rfl,rfl⟩)
  have hS:w8.drew.cell? ⟨b6,0,none⟩=some (.bool g)∧w8.drew.cell? ⟨b6,1,none⟩=some (.slice A n cc)∧w8.drew.cell? ⟨b6,2,none⟩=some (.int .i64 y):=⟨kb_cell N8.out (i:=0) rfl,kb_cell N8.out (i:=1) rfl,kb_cell N8.out (i:=2) rfl⟩
  refine wp_region_G (g:=4) (S:=fun w'=>w'.cell? ⟨b6,0,none⟩=some (.bool g)∧w'.cell? ⟨b6,1,none⟩=some (.slice A n cc)∧w'.cell? ⟨b6,2,none⟩=some (.int .i64 y)) (by kernel_rfl) ?_
  have B9:=Lib.hid (bl_drew B8.out)
  have H9:=Lib.hid (H8.out.below (bl_drew (Below.refl _ _)))
  have N9:Hid (w8.drew.heap[b6]?=some (.cells #[.bool g,.slice A n cc,.int .i64 y] 44 (0,0))):=Lib.hid N8.out
  obtain ⟨w9,hw9⟩:∃ w,w8.drew=w:=⟨_,rfl⟩
  rw [hw9] at hS B9 H9 N9
  rw [hw9]
  clear hw9
  (refine wpG_take (i:=0) (v:=?_) rfl rfl (by kernel_rfl) (by kernel_rfl) (by kernel_rfl) (fun _ _ _ h=>h) (Or.inl ⟨by rfl,fun w=>?_⟩) (Or.inr hS) ?_;rotate_left;focus (go_simp;first|done|with_reducible rfl|exact rfl));(try simp only [Act.put,zA,zB,zC,zD,zE,zF])
  (refine wpG_ld (i:=1) 4 (v:=?_) rfl rfl (by kernel_rfl) (by kernel_rfl) (by kernel_rfl) (by kernel_rfl) (fun _ _ _ h=>h) (Or.inl ⟨by rfl,?_⟩) hS ?_;rotate_left;focus (intro w hSw;(try dsimp only at hSw);go_simp;first|done|with_reducible rfl|exact rfl));(try simp only [Act.put,zA,zB,zC,zD,zE,zF])
  (refine wpG_take (i:=2) (v:=?_) rfl rfl (by kernel_rfl) (by kernel_rfl) (by kernel_rfl) (fun _ _ _ h=>h) (Or.inl ⟨by rfl,fun w=>?_⟩) (Or.inr hS) ?_;rotate_left;focus (go_simp;first|done|with_reducible rfl|exact rfl));(try simp only [Act.put,zA,zB,zC,zD,zE,zF])
  (refine wpG_take (i:=5) (v:=?_) rfl rfl (by kernel_rfl) (by kernel_rfl) (by kernel_rfl) (fun _ _ _ h=>h) (Or.inl ⟨by rfl,fun w=>?_⟩) (Or.inr hS) ?_;rotate_left;focus (go_simp;first|done|with_reducible rfl|exact rfl));(try simp only [Act.put,zA,zB,zC,zD,zE,zF])
  refine wpG_one (i:=3) (by kernel_rfl) rfl (fun K hK=>?_);have HK:=Lib.hid hK;clear hK
  go_simp
  (with_reducible refine (OT.out _ B9.out).mono ?_)
  rintro e wa ⟨uT,rfl,hu,hb⟩
  have UT:=Lib.hid hu
  have Ba:=Lib.hid (bl_then B9.out hb)
  have Ha:=Lib.hid (H9.out.below hb)
  have na:=kb_keep hb N9.out
  refine HK.out _ _ (Or.inr ⟨kb_cell na (i:=0) rfl,kb_cell na (i:=1) rfl,kb_cell na (i:=2) rfl⟩) ?_
  clear hu hb hS na HK K
  (try simp only [Act.put,zA,zB,zC,zD,zE,zF])
  refine wpG_one (i:=4) (by kernel_rfl) rfl (fun K hK=>?_);have HK:=Lib.hid hK;clear hK
  go_simp
  (with_reducible refine (CM.out _ _ _ Ha.out UT.out).mono ?_)
  rintro e wb ⟨rfl,hb⟩
  have Bb:=Lib.hid (bl_then Ba.out hb)
  refine HK.out _ _ (Or.inl (by kernel_rfl)) ?_
  clear hb HK K
  (try simp only [Act.put,zA,zB,zC,zD,zE,zF])
  refine wpG_one (i:=6) (by kernel_rfl) rfl (fun K hK=>?_);have HK:=Lib.hid hK;clear hK
  go_simp
  refine (SC.out _ _).mono ?_
  rintro e w' ⟨rfl,rfl⟩
  refine HK.out _ _ (Or.inl (by kernel_rfl)) ?_
  clear HK K
  (try simp only [Act.put,zA,zB,zC,zD,zE,zF])
  refine wpG_one (i:=7) (by kernel_rfl) rfl (fun K hK=>?_);have HK:=Lib.hid hK;clear hK;go_simp;refine HK.out _ _ (Or.inl (by kernel_rfl)) ?_;clear HK K;(try simp only [Act.put,zA,zB,zC,zD,zE,zF])
  refine wpG_done (by kernel_rfl) ?_ _
  go_wp2
  go_ret
  exact ⟨_,rfl,Fo.mk AR.out AW.out,Bb.out⟩
theorem rfused_c (a b c:Nat) (m:Int) (ha:W64 a) (hb:W64 b) (hc:W64 c) (w:World) (hT:Tab w) :
    Calls Tryd.prog 9 #[.float .f64 a,.float .f64 b,.float .f64 c,.int .i8 m] w fun e w'=>∃ r,e=.returned (.float .f64 r)∧Fo (fusedR a b c m) r∧Below w.heap.size w w':=by
  by_cases hf:(fin a && fin b)=true
  · by_cases hfc:fin c=true
    · by_cases za:rg a=0
      · exact rfused_a a b c m ha hb hc hf hfc za w
      · by_cases zb:rg b=0
        · exact rfused_b a b c m ha hb hc hf hfc za zb w
        · by_cases hz:fusZ a b c=0
          · exact rfused_n a b c m ha hb hc hf hfc za zb hz w hT
          · have fa:fin a=true:=by cases h:fin a <;> rw [h] at hf <;> simp at hf ⊢
            have fb:fin b=true:=by cases h:fin b <;> rw [h,fa] at hf <;> simp at hf ⊢
            obtain ⟨t,ht,_,tr⟩:=fus_near ha hb hc (fin_r fa) (fin_r fb) (fin_r hfc) hz
            rcases Nat.lt_or_eq_of_le tr with h|h
            · exact rfused_y a b c m ha hb hc hf hfc za zb hz ht h w hT
            · exact rfused_i a b c m ha hb hc hf hfc za zb hz ht h w hT
    · exact rfused_w a b c m ha hb hc hf (by simpa using hfc) w
  · exact rfused_x a b c m ha hb hc (by simpa using hf) w
end Go.Proofs.YtalhpbilkhdfhaaDoor
namespace Go.Proofs.YtalhpbilkhdfhaaDoor
open Go Go.RowKit GFl Ieee
set_option maxRecDepth 100000
set_option linter.unusedSimpArgs false
set_option linter.unusedVariables false
theorem sum_comm (x y:Datum):x.sum y=y.sum x:=by
  cases x <;> cases y <;> simp only [Datum.sum]
  case infinity.infinity s t =>
    by_cases h:s=t
    · subst h;rfl
    · rw [if_neg h,if_neg (fun e=>h e.symm)]
  case number.number s m i t n j =>
    rw [show min j i=min i j from Int.min_comm j i,Int.add_comm (signed t n (j - min i j).toNat),Bool.and_comm t s]
theorem product_comm (x y:Datum):x.product y=y.product x:=by
  cases x <;> cases y <;> simp only [Datum.product]
  all_goals (try (rename_i s t;rw [Bool.xor_comm];done))
  all_goals first|(rename_i s m i t n j;rw [Bool.xor_comm s t,Nat.mul_comm m n,Int.add_comm i j];done)|skip
  all_goals (split <;> first|rfl|(rw [Bool.xor_comm]))
theorem dadd_comm (a b:Nat):double.add a b=double.add b a:=by unfold Format.add;rw [sum_comm]
theorem dmul_comm (a b:Nat):double.mul a b=double.mul b a:=by unfold Format.mul;rw [product_comm]
theorem dfma_comm (a b c:Nat):double.fma a b c=double.fma b a c:=by unfold Format.fma;rw [product_comm]
theorem val_add0 {a b:Nat} (ha:W64 a) (hb:W64 b) (h:rg a=rg b) (hn:neg a ≠ neg b):val a + val b=0:=by
  rw [val_eq',val_eq',h]
  generalize mg 4503599627370496 (rg b)=n
  cases ha':neg a <;> cases hb':neg b <;> rw [ha',hb'] at hn <;> simp at hn ⊢ <;> omega
theorem addE_comm {a b s:Nat} (ha:W64 a) (hb:W64 b) (fa:rg a < 9218868437227405312) (fb:rg b < 9218868437227405312) (h:double.add a b=some s) (h0:rg s ≠ 0):addE a b s=addE b a s:=by
  unfold addE
  rcases Nat.lt_trichotomy (rg a) (rg b) with h1|h1|h1
  · rw [if_pos h1,if_neg (by omega)]
  · rw [if_neg (by omega),if_neg (by omega)]
    by_cases hn:neg a=neg b
    · rw [w64_ext ha hb hn h1]
    · exfalso
      obtain ⟨r,hr,e⟩:=add64 ha hb fa fb
      rw [val_add0 ha hb h1 hn] at hr
      have hr0:r=0:=hr.unique B52_pos Nat.one_pos (IsRn.zero B52_pos Nat.one_pos)
      rw [e] at h
      have h:=(Option.some.inj h).symm
      apply h0
      rw [h,hr0,wd_rg (by omega)];rfl
  · rw [if_neg (by omega),if_pos h1]
theorem addW_comm {a b s:Nat} {m:Int} (ha:W64 a) (hb:W64 b) (fa:rg a < 9218868437227405312) (fb:rg b < 9218868437227405312) (h:double.add a b=some s):addW a b m s=addW b a m s:=by
  have h':double.add b a=some s:=by rw [dadd_comm];exact h
  unfold addW
  by_cases h0:rg s=0
  · rw [if_pos h0,if_pos h0]
    have e:(rg a=0∧neg a=neg b) ↔ (rg b=0∧neg b=neg a):=by
      constructor
      · rintro ⟨h1,h2⟩
        have:=add_z ha hb fa fb h h1
        exact ⟨by omega,h2.symm⟩
      · rintro ⟨h1,h2⟩
        have:=add_z hb ha fb fa h' h1
        exact ⟨by omega,h2.symm⟩
    simp only [e]
  · rw [if_neg h0,if_neg h0,addE_comm ha hb fa fb h h0]
theorem addR_comm {a b:Nat} (m:Int) (ha:W64 a) (hb:W64 b):addR a b m=addR b a m:=by
  unfold addR
  rw [Bool.and_comm (fin b),dadd_comm b a]
  by_cases hf:(fin a && fin b)=true
  · rw [if_pos hf,if_pos hf]
    have fa:fin a=true:=by cases h:fin a <;> rw [h] at hf <;> simp at hf ⊢
    have fb:fin b=true:=by cases h:fin b <;> rw [h,fa] at hf <;> simp at hf ⊢
    cases hs:double.add a b with
    | none=>rfl
    | some s=>simp only [Option.map_some];rw [addW_comm ha hb (fin_r fa) (fin_r fb) hs]
  · rw [if_neg hf,if_neg hf]
theorem okB_comm (a b:Nat):okB a b=okB b a:=by
  unfold okB
  cases fin a <;> cases fin b <;> cases decide (rg a=0) <;> cases decide (rg b=0) <;> rfl
theorem mulR_comm (a b:Nat) (m:Int):mulR a b m=mulR b a m:=by
  unfold mulR
  rw [okB_comm,dmul_comm]
  have:∀ p,mulS a b p=mulS b a p:=fun p=>by unfold mulS;rw [Int.mul_comm (val a)]
  simp only [this]
theorem fusZ_comm (a b c:Nat):fusZ a b c=fusZ b a c:=by unfold fusZ;rw [Int.mul_comm (val a)]
theorem fusedR_comm (a b c:Nat) (m:Int):fusedR a b c m=fusedR b a c m:=by
  have e1:fmul a b=fmul b a:=by unfold fmul;rw [dmul_comm]
  have e2:∀ t,fusS a b c t=fusS b a c t:=fun t=>by unfold fusS;rw [fusZ_comm]
  unfold fusedR
  rw [Bool.and_comm (fin b),dmul_comm b a,dfma_comm b a,fusZ_comm b a,← e1]
  have e3:(rg b=0 ∨ rg a=0) ↔ (rg a=0 ∨ rg b=0):=Or.comm
  simp only [e2,e3]
theorem xor_not (s t:Bool):(!s ^^ t)=!(s ^^ t):=by cases s <;> cases t <;> rfl
theorem xor_not' (s t:Bool):(s ^^ !t)=!(s ^^ t):=by cases s <;> cases t <;> rfl
theorem product_opp (x y:Datum):(x.opposite).product y=(x.product y).map Datum.opposite:=by
  cases x <;> cases y <;> simp only [Datum.opposite,Datum.product,Option.map_none,Option.map_some,xor_not]
  all_goals first|rfl|(split <;> first|rfl|(simp only [Option.map_some,Datum.opposite,xor_not,xor_not'];done))
theorem quotient_opp (k:Nat) (x y:Datum):x.quotient k y.opposite=(x.quotient k y).map Datum.opposite:=by
  cases x <;> cases y <;> simp only [Datum.opposite,Datum.quotient,Option.map_none,Option.map_some,xor_not']
  all_goals first|rfl|(split <;> first|rfl|(simp only [Option.map_some,Datum.opposite,xor_not'];done)|(split <;> first|rfl|(simp only [Option.map_some,Datum.opposite,xor_not'];done)))
theorem nearest_opp (s:Bool) (m:Nat) (e:Int):double.nearest (!s) m e=fneg (double.nearest s m e):=by
  obtain ⟨r,hr,h1⟩:=nearest_rn good_double s m e
  obtain ⟨r',hr',h2⟩:=nearest_rn good_double (!s) m e
  have:r'=r:=hr'.unique (binade_pos double) (Nat.two_pow_pos _) hr
  rw [h2,h1,this,d_inf]
  have hl:min r 9218868437227405312 < 9223372036854775808:=by omega
  show wd (!s) _=fneg (wd s _)
  refine w64_ext (wd_w hl) (fneg_w (wd_w hl)) ?_ ?_
  · rw [fneg_neg (wd_w hl),wd_neg hl,wd_neg hl]
  · rw [fneg_rg (wd_w hl),wd_rg hl,wd_rg hl]
theorem write_opp {d:Datum} (h:∀ s p,d ≠ .nan s p):double.write d.opposite=fneg (double.write d):=by
  cases d with
  | nan s p=>exact absurd rfl (h s p)
  | infinity s =>
    show double.write (.infinity (!s))=_
    rw [write_inf,write_inf]
    cases s <;> decide
  | number s m e=>exact nearest_opp s m e
theorem map_opp {o:Option Datum} (h:∀ d,o=some d→∀ s p,d ≠ .nan s p):(o.map Datum.opposite).map double.write=(o.map double.write).map fneg:=by
  cases o with
  | none=>rfl
  | some d=>simp only [Option.map_some];rw [write_opp (h d rfl)]
theorem mul_fneg {a b:Nat} (ha:W64 a):double.mul (fneg a) b=(double.mul a b).map fneg:=by
  unfold Format.mul
  rw [read_fneg ha,product_opp]
  exact map_opp (fun d hd=>prod_nn hd)
theorem div_fneg {a b:Nat} (hb:W64 b):double.div a (fneg b)=(double.div a b).map fneg:=by
  unfold Format.div
  rw [read_fneg hb,quotient_opp]
  exact map_opp (fun d hd=>quo_nn hd)
def turnI (m:Int):Int:=if m=1 then 2 else if m=2 then 1 else m
theorem wayI_turn (m:Int):wayI (turnI m)=turnI (wayI m):=by unfold wayI turnI;(repeat' split) <;> omega
theorem fin_fneg {x:Nat} (h:W64 x):fin (fneg x)=fin x:=by unfold fin;rw [fneg_rg h]
theorem wd_fneg {s:Bool} {r:Nat} (h:r < 9223372036854775808):fneg (wd s r)=wd (!s) r :=
  w64_ext (fneg_w (wd_w h)) (wd_w h) (by rw [fneg_neg (wd_w h),wd_neg h,wd_neg h]) (by rw [fneg_rg (wd_w h),wd_rg h,wd_rg h])
theorem settle_fneg {p:Nat} {o m:Int} (hp:W64 p) (hr:rg p≤9218868437227405312) (h0:rg p=0→(neg p=false→0≤o)∧(neg p=true→o≤0)):settleW (fneg p) (-o) (turnI m)=fneg (settleW p o m):=by
  have e:p=wd (neg p) (rg p):=w64_wd hp
  generalize neg p=g at *
  generalize rg p=r at *
  subst e
  have hl:r < 9223372036854775808:=by omega
  rw [wd_fneg hl]
  have iw:∀ g m,inw (!g) (turnI m) ↔ inw g m:=fun g m=>by unfold inw turnI;cases g <;> simp <;> (repeat' split) <;> omega
  have ow:∀ g m,outw (!g) (turnI m) ↔ outw g m:=fun g m=>by unfold outw turnI;cases g <;> simp <;> (repeat' split) <;> omega
  by_cases hI:r=9218868437227405312
  · subst hI
    rw [settle_huge,settle_huge]
    unfold hugeY
    simp only [iw]
    split <;> exact (wd_fneg (by decide)).symm
  · have hlt:r < 9218868437227405312:=by omega
    have k1:=settle_size (g:=g) (r:=r) (e:=if g=true then -o else o) (m:=m) hlt (fun h=>by
      rcases Nat.eq_zero_or_pos r with hz|hz
      · have:=h0 hz
        cases g <;> simp at h this <;> omega
      · exact hz)
    have k2:=settle_size (g:=!g) (r:=r) (e:=if g=true then -o else o) (m:=turnI m) hlt (fun h=>by
      rcases Nat.eq_zero_or_pos r with hz|hz
      · have:=h0 hz
        cases g <;> simp at h this <;> omega
      · exact hz)
    have e1:(if g=true then -(if g=true then -o else o) else if g=true then -o else o)=o:=by cases g <;> simp
    have e2:(if (!g)=true then -(if g=true then -o else o) else if g=true then -o else o)=-o:=by cases g <;> simp
    rw [e1] at k1
    rw [e2] at k2
    rw [k1,k2]
    simp only [iw,ow]
    rw [wd_fneg]
    (repeat' split) <;> omega
theorem mulS_fneg {a b p:Nat} (ha:W64 a) (hp:W64 p):mulS (fneg a) b (fneg p)=-mulS a b p:=by
  unfold mulS
  rw [fneg_val ha,fneg_val hp,← Int.sign_neg]
  congr 1
  rw [Int.neg_mul,Int.neg_mul];omega
theorem divS_fneg {a b q:Nat} (hb:W64 b) (hq:W64 q):divS a (fneg b) (fneg q)=-divS a b q:=by
  unfold divS
  rw [fneg_val hb,fneg_val hq,Int.neg_mul,Int.mul_neg,Int.neg_neg,Int.sign_neg,Int.mul_neg]
theorem okB_fneg {a b:Nat} (ha:W64 a):okB (fneg a) b=okB a b:=by unfold okB;rw [fin_fneg ha,fneg_rg ha]
theorem mulR_fneg {a b:Nat} (m:Int) (ha:W64 a) (hb:W64 b):mulR (fneg a) b (turnI m)=(mulR a b m).map fneg:=by
  unfold mulR
  rw [okB_fneg ha,mul_fneg ha]
  by_cases h:okB a b=true
  · rw [if_pos h,if_pos h]
    have hh:=h
    unfold okB at hh
    simp only [Bool.and_eq_true,Bool.not_eq_true',decide_eq_false_iff_not] at hh
    obtain ⟨⟨⟨fa,fb⟩,za⟩,zb⟩:=hh
    obtain ⟨p,_,hp,pw,_,pn,_⟩:=mul64x ha hb (fin_r fa) (fin_r fb)
    rw [hp]
    simp only [Option.map_some]
    rw [mulS_fneg ha pw,wayI_turn,settle_fneg pw (mul_opt hp).2 (fun hz=>mulS_z pn hz)]
  · rw [if_neg h,if_neg h]
theorem divR_fneg {a b:Nat} (m:Int) (ha:W64 a) (hb:W64 b):divR a (fneg b) (turnI m)=(divR a b m).map fneg:=by
  unfold divR
  rw [okB_comm,okB_fneg hb,okB_comm,div_fneg hb]
  by_cases h:okB a b=true
  · rw [if_pos h,if_pos h]
    have hh:=h
    unfold okB at hh
    simp only [Bool.and_eq_true,Bool.not_eq_true',decide_eq_false_iff_not] at hh
    obtain ⟨⟨⟨fa,fb⟩,za⟩,zb⟩:=hh
    obtain ⟨p,_,hp,pw,_,pn,_⟩:=div64x ha hb (fin_r fa) (fin_r fb) zb
    rw [hp]
    simp only [Option.map_some]
    rw [divS_fneg hb pw,wayI_turn,settle_fneg pw (div_opt hp).2 (fun hz=>divS_z pn hz)]
  · rw [if_neg h,if_neg h]
theorem Fo.opp {o o':Option Nat} {r:Nat} (h:Fo o r) (e:o'=o.map fneg):Fo o' (fneg r):=by
  obtain ⟨hw,h⟩:=h
  subst e
  refine ⟨fneg_w hw,?_⟩
  cases o with
  | none=>simp only [Option.map_none] at h ⊢;rw [fneg_isn hw];exact h
  | some y=>simp only [Option.map_some] at h ⊢;rw [h]
end Go.Proofs.YtalhpbilkhdfhaaDoor
namespace Go.Proofs.YtalhpbilkhdfhaaDoor
open Go Go.RowKit GFl Ieee
set_option maxRecDepth 100000
set_option linter.unusedSimpArgs false
set_option linter.unusedVariables false
def Lk (x y:Nat):Prop:=x=y ∨ (rg x=0∧rg y=0)
theorem Lk.rfl' (x:Nat):Lk x x:=Or.inl rfl
theorem Lk.fneg {x y:Nat} (hx:W64 x) (hy:W64 y) (h:Lk x y):Lk (fneg x) (fneg y):=by
  rcases h with h|h
  · exact Or.inl (by rw [h])
  · exact Or.inr ⟨by rw [fneg_rg hx];exact h.1,by rw [fneg_rg hy];exact h.2⟩
theorem sgI_zero {x:Nat} (h:rg x=0):sgI x=0:=by rw [sgI_val (by omega),val_z h];rfl
theorem Lk.sgI {x y:Nat} (h:Lk x y):Go.Proofs.YtalhpbilkhdfhaaDoor.sgI x=Go.Proofs.YtalhpbilkhdfhaaDoor.sgI y:=by
  rcases h with h|h
  · rw [h]
  · rw [sgI_zero h.1,sgI_zero h.2]
theorem sgI_fneg {x:Nat} (hx:W64 x) (h:rg x≤9218868437227405312):sgI (fneg x)=-sgI x:=by
  rw [sgI_val (by rw [fneg_rg hx];exact h),sgI_val h,fneg_val hx,Int.sign_neg]
theorem inf_read {x:Nat} (hx:W64 x) (h:rg x=9218868437227405312):double.read x=.infinity (neg x):=read_inf (f:=double) hx (by rw [d_inf];exact h) good_double
theorem add_inf {x y:Nat} (hx:W64 x) (hy:W64 y) (h:rg x < 9218868437227405312) (h':rg y=9218868437227405312):double.add x y=some y:=by
  obtain ⟨m,e,hr⟩:=read_fin hx h
  unfold Format.add
  rw [hr,inf_read hy h']
  show some (double.write (.infinity (neg y)))=some y
  rw [write_inf,← h',← w64_wd hy]
theorem add_val {x y:Nat} (hx:W64 x) (hy:W64 y) (h1:rg x < 9218868437227405312) (h2:rg y < 9218868437227405312):∃ s r,double.add x y=some s∧W64 s∧IsRn B52 (val x + val y).natAbs 1 r∧rg s=min r 9218868437227405312∧(val x + val y ≠ 0→neg s=decide (val x + val y < 0))∧(val x + val y=0→rg s=0):=by
  obtain ⟨r,hr,e⟩:=add64 hx hy h1 h2
  have hl:min r 9218868437227405312 < 9223372036854775808:=by omega
  refine ⟨_,r,e,wd_w hl,hr,wd_rg hl,fun h0=>?_,fun h0=>?_⟩
  · rw [wd_neg hl,if_neg h0]
  · rw [wd_rg hl]
    rw [h0] at hr
    have:r=0:=hr.unique B52_pos Nat.one_pos (IsRn.zero B52_pos Nat.one_pos)
    rw [this];rfl
theorem add_like {x y x1 y1 s:Nat} (hx:W64 x) (hy:W64 y) (hx1:W64 x1) (hy1:W64 y1) (h1:rg x < 9218868437227405312) (h2:rg y≤9218868437227405312) (l1:Lk x x1) (l2:Lk y y1) (h:double.add x y=some s):∃ s1,double.add x1 y1=some s1∧Lk s s1:=by
  have e1:rg x1=rg x:=by rcases l1 with e|e;(rw [e]);(rw [e.1,e.2])
  have e2:rg y1=rg y:=by rcases l2 with e|e;(rw [e]);(rw [e.1,e.2])
  rcases Nat.lt_or_eq_of_le h2 with h2|h2
  · have v1:val x1=val x:=by rcases l1 with e|e;(rw [e]);(rw [val_z e.1,val_z e.2])
    have v2:val y1=val y:=by rcases l2 with e|e;(rw [e]);(rw [val_z e.1,val_z e.2])
    obtain ⟨t,r,a1,a2,a3,a4,a5,a6⟩:=add_val hx hy h1 h2
    obtain ⟨t',r',b1,b2,b3,b4,b5,b6⟩:=add_val hx1 hy1 (by omega) (by omega)
    rw [h] at a1
    obtain rfl:=Option.some.inj a1
    rw [v1,v2] at b3 b5 b6
    have er:r'=r:=b3.unique B52_pos Nat.one_pos a3
    refine ⟨t',b1,?_⟩
    by_cases h0:val x + val y=0
    · exact Or.inr ⟨a6 h0,b6 h0⟩
    · exact Or.inl (w64_ext a2 b2 ((a5 h0).trans (b5 h0).symm) (by rw [a4,b4,er]))
  · rw [add_inf hx hy h1 h2] at h
    obtain rfl:=Option.some.inj h
    have ey:y=y1:=by rcases l2 with e|e;(exact e);omega
    subst ey
    exact ⟨y,add_inf hx1 hy1 (by omega) h2,Or.inl rfl⟩
theorem add_turn {x y s:Nat} (hx:W64 x) (hy:W64 y) (h1:rg x < 9218868437227405312) (h2:rg y≤9218868437227405312) (h:double.add x y=some s):∃ s',double.add (fneg x) (fneg y)=some s'∧Lk (fneg s) s'∧W64 s'∧(rg s ≠ 0→s'=fneg s):=by
  rcases Nat.lt_or_eq_of_le h2 with h2|h2
  · obtain ⟨t,r,a1,a2,a3,a4,a5,a6⟩:=add_val hx hy h1 h2
    obtain ⟨t',r',b1,b2,b3,b4,b5,b6⟩:=add_val (fneg_w hx) (fneg_w hy) (by rw [fneg_rg hx];exact h1) (by rw [fneg_rg hy];exact h2)
    rw [h] at a1
    obtain rfl:=Option.some.inj a1
    rw [fneg_val hx,fneg_val hy,show -val x + -val y=-(val x + val y) by omega] at b3 b5 b6
    rw [Int.natAbs_neg] at b3
    have er:r'=r:=b3.unique B52_pos Nat.one_pos a3
    have key:val x + val y ≠ 0→t'=fneg s:=fun h0=>w64_ext b2 (fneg_w a2) (by
      rw [b5 (by omega),fneg_neg a2,a5 h0]
      by_cases hn:val x + val y < 0
      · rw [decide_eq_true hn,decide_eq_false (by omega)];rfl
      · rw [decide_eq_false hn,decide_eq_true (by omega)];rfl) (by rw [fneg_rg a2,a4,b4,er])
    refine ⟨t',b1,?_,b2,fun hz=>key (fun e=>hz (a6 e))⟩
    by_cases h0:val x + val y=0
    · exact Or.inr ⟨by rw [fneg_rg a2];exact a6 h0,b6 (by omega)⟩
    · exact Or.inl (key h0).symm
  · rw [add_inf hx hy h1 h2] at h
    obtain rfl:=Option.some.inj h
    exact ⟨fneg y,add_inf (fneg_w hx) (fneg_w hy) (by rw [fneg_rg hx];exact h1) (by rw [fneg_rg hy];exact h2),Or.inl rfl,fneg_w hy,fun _=>rfl⟩
theorem two_subs {a b s:Nat} (ha:W64 a) (hb:W64 b) (hs:W64 s) (fa:rg a < 9218868437227405312) (fb:rg b < 9218868437227405312) (fs:rg s < 9218868437227405312) :
    sgI ((double.sub (fneg a) ((double.sub (fneg s) (fneg b)).getD 0)).getD 0)=-sgI ((double.sub a ((double.sub s b).getD 0)).getD 0):=by
  obtain ⟨t,ht,tw,tr⟩:=sub_any hs hb fs (by omega)
  obtain ⟨u,hu,uw,ur⟩:=sub_any ha tw fa tr
  rw [ht,Option.getD_some,hu,Option.getD_some]
  have ht2:=ht
  rw [sub_add hb] at ht2
  obtain ⟨t',ht',tl,tw',_⟩:=add_turn hs (fneg_w hb) fs (by rw [fneg_rg hb];omega) ht2
  have e1:double.sub (fneg s) (fneg b)=some t':=by rw [sub_add (fneg_w hb)];exact ht'
  rw [e1,Option.getD_some]
  have hu2:=hu
  rw [sub_add tw] at hu2
  obtain ⟨v,hv,vl,vw,_⟩:=add_turn ha (fneg_w tw) fa (by rw [fneg_rg tw];exact tr) hu2
  have tl2:Lk (fneg (fneg t)) (fneg t'):=tl.fneg (fneg_w tw) tw'
  obtain ⟨u',hu',ul⟩:=add_like (fneg_w ha) (fneg_w (fneg_w tw)) (fneg_w ha) (fneg_w tw') (by rw [fneg_rg ha];exact fa) (by rw [fneg_rg (fneg_w tw),fneg_rg tw];exact tr) (Lk.rfl' _) tl2 hv
  have e2:double.sub (fneg a) t'=some u':=by rw [sub_add tw'];exact hu'
  rw [e2,Option.getD_some,← ul.sgI,← vl.sgI,sgI_fneg uw ur]
theorem addE_fneg {a b s:Nat} (ha:W64 a) (hb:W64 b) (hs:W64 s) (fa:rg a < 9218868437227405312) (fb:rg b < 9218868437227405312) (fs:rg s < 9218868437227405312):addE (fneg a) (fneg b) (fneg s)=-addE a b s:=by
  unfold addE
  rw [fneg_rg ha,fneg_rg hb]
  split
  · exact two_subs ha hb hs fa fb fs
  · exact two_subs hb ha hs fb fa fs
theorem zero_words {m:Int}:(m=1 ∨ m=2→fneg (if m=1 then 9223372036854775808 else 0)=if turnI m=1 then 9223372036854775808 else 0)∧rg (fneg (if m=1 then 9223372036854775808 else 0))=0∧rg (if turnI m=1 then 9223372036854775808 else 0)=0:=by
  refine ⟨?_,?_,?_⟩
  · rintro (rfl|rfl) <;> decide
  · split <;> decide
  · split <;> decide
theorem addR_turn {a b:Nat} (m:Int) (ha:W64 a) (hb:W64 b) (fa:fin a=true) (fb:fin b=true):∃ s s',addR a b m=some s∧addR (fneg a) (fneg b) (turnI m)=some s'∧W64 s∧W64 s'∧Lk (fneg s) s'∧(m=1 ∨ m=2→s'=fneg s):=by
  have ra:=fin_r fa
  have rb:=fin_r fb
  obtain ⟨s,hs,sw,sr⟩:=add_f ha hb ra rb
  obtain ⟨s',hs',sl,sw',sn⟩:=add_turn ha hb ra (by omega) hs
  have sr':rg s'≤9218868437227405312:=(add_opt hs').2
  refine ⟨addW a b m s,addW (fneg a) (fneg b) (turnI m) s',addR_fin fa fb hs,addR_fin (by rw [fin_fneg ha];exact fa) (by rw [fin_fneg hb];exact fb) hs',addW_w sw sr,addW_w sw' sr',?_⟩
  have zs:rg s'=rg s:=by
    rcases sl with e|e
    · rw [← e,fneg_rg sw]
    · rw [fneg_rg sw] at e;rw [e.1,e.2]
  have key:Lk (fneg (addW a b m s)) (addW (fneg a) (fneg b) (turnI m) s')∧((m=1 ∨ m=2)→addW (fneg a) (fneg b) (turnI m) s'=fneg (addW a b m s)):=by
    unfold addW
    rw [zs,fneg_rg ha,fneg_neg ha,fneg_neg hb]
    by_cases z0:rg s=0
    · rw [if_pos z0,if_pos z0]
      have en:((!neg a)=(!neg b)) ↔ (neg a=neg b):=by cases neg a <;> cases neg b <;> simp
      by_cases z1:rg a=0∧neg a=neg b
      · rw [if_pos z1,if_pos ⟨z1.1,en.2 z1.2⟩]
        have z2:rg b=0:=(add_z ha hb ra rb hs z1.1).symm.trans z0
        have e1:=add_same ha hb z1.1 z2 z1.2 hs
        have e2:=add_same (fneg_w ha) (fneg_w hb) (by rw [fneg_rg ha];exact z1.1) (by rw [fneg_rg hb];exact z2) (by rw [fneg_neg ha,fneg_neg hb,z1.2]) hs'
        rw [e1,e2]
        exact ⟨Or.inl rfl,fun _=>rfl⟩
      · rw [if_neg z1,if_neg (show ¬(rg a=0∧(!neg a)=(!neg b)) from fun h=>z1 ⟨h.1,en.1 h.2⟩)]
        obtain ⟨k1,k2,k3⟩:=zero_words (m:=m)
        exact ⟨Or.inr ⟨k2,k3⟩,fun h=>(k1 h).symm⟩
    · rw [if_neg z0,if_neg z0,sn z0,wayI_turn]
      by_cases zi:rg s=9218868437227405312
      · rw [if_pos zi,if_pos zi]
        have:=settle_fneg (o:=0) (m:=wayI m) sw sr (fun h=>absurd h z0)
        rw [Int.neg_zero] at this
        rw [this]
        exact ⟨Or.inl rfl,fun _=>rfl⟩
      · rw [if_neg zi,if_neg zi,addE_fneg ha hb sw ra rb (by omega),settle_fneg sw sr (fun h=>absurd h z0)]
        exact ⟨Or.inl rfl,fun _=>rfl⟩
  exact key
end Go.Proofs.YtalhpbilkhdfhaaDoor
namespace Go.Proofs.YtalhpbilkhdfhaaDoor
open Go Go.RowKit GFl Ieee
set_option maxRecDepth 100000
set_option linter.unusedSimpArgs false
set_option linter.unusedVariables false
def Tu (o o':Option Nat) (m:Int):Prop:=(o=none∧o'=none) ∨ ∃ s s',o=some s∧o'=some s'∧W64 s∧W64 s'∧Lk (fneg s) s'∧(m=1 ∨ m=2→s'=fneg s)
theorem Tu.of_map {o o':Option Nat} {m:Int} (hw:∀ s,o=some s→W64 s) (h:o'=o.map fneg):Tu o o' m:=by
  subst h
  cases o with
  | none=>exact Or.inl ⟨rfl,rfl⟩
  | some s=>exact Or.inr ⟨s,_,rfl,rfl,hw s rfl,fneg_w (hw s rfl),Or.inl rfl,fun _=>rfl⟩
theorem read_cls {x:Nat} (hx:W64 x):(fin x=true∧rg x < 9218868437227405312) ∨ (fin x=false∧isn x=false∧rg x=9218868437227405312∧double.read x=.infinity (neg x)) ∨ (fin x=false∧isn x=true∧∃ s p,double.read x=.nan s p):=by
  rcases Nat.lt_trichotomy (rg x) 9218868437227405312 with h|h|h
  · exact Or.inl ⟨fin_t h,h⟩
  · exact Or.inr (Or.inl ⟨fin_f (by omega),by rw [isn_eq];simp;omega,h,inf_read hx h⟩)
  · exact Or.inr (Or.inr ⟨fin_f (by omega),by rw [isn_eq];simp;omega,_,_,read_nan (f:=double) hx (by rw [d_inf];exact h) good_double⟩)
theorem isn_fneg {x:Nat} (h:W64 x):isn (fneg x)=isn x:=by rw [isn_eq,isn_eq,fneg_rg h]
theorem dsum_inf_opp (s:Bool) (y:Datum):(Datum.infinity (!s)).sum y.opposite=((Datum.infinity s).sum y).map Datum.opposite:=by
  cases y with
  | infinity t=>cases s <;> cases t <;> rfl
  | nan t p=>rfl
  | number t m e=>rfl
theorem add_infx {p c:Nat} (hp:W64 p) (hc:W64 c) (h:rg p=9218868437227405312):double.add (fneg p) (fneg c)=(double.add p c).map fneg:=by
  unfold Format.add
  rw [read_fneg hp,read_fneg hc,inf_read hp h]
  show ((Datum.infinity (!neg p)).sum _).map _=_
  rw [dsum_inf_opp]
  exact map_opp (fun d hd=>sum_nn hd)
theorem inf_rg (s:Bool):rg (double.write (.infinity s))=9218868437227405312:=by rw [write_inf,wd_rg (by decide)]
theorem mul_inf {a b p:Nat} (ha:W64 a) (hb:W64 b) (hf:(fin a && fin b)=false) (h:double.mul a b=some p):rg p=9218868437227405312:=by
  have key:∀ d,((double.read a).product (double.read b))=some d→∃ s,d=.infinity s:=by
    intro d hd
    rcases read_cls ha with ⟨fa,ra⟩|⟨fa,_,_,ea⟩|⟨fa,_,s,q,ea⟩
    · rcases read_cls hb with ⟨fb,rb⟩|⟨fb,_,_,eb⟩|⟨fb,_,t,q',eb⟩
      · rw [fa,fb] at hf;simp at hf
      · obtain ⟨m,e,ea⟩:=read_fin ha ra
        rw [ea,eb] at hd
        simp only [Datum.product] at hd
        split at hd
        · simp at hd
        · exact ⟨_,(Option.some.inj hd).symm⟩
      · rw [eb] at hd
        cases hr:double.read a <;> rw [hr] at hd <;> simp [Datum.product] at hd
    · rcases read_cls hb with ⟨fb,rb⟩|⟨fb,_,_,eb⟩|⟨fb,_,t,q',eb⟩
      · obtain ⟨m,e,eb⟩:=read_fin hb rb
        rw [ea,eb] at hd
        simp only [Datum.product] at hd
        split at hd
        · simp at hd
        · exact ⟨_,(Option.some.inj hd).symm⟩
      · rw [ea,eb] at hd
        exact ⟨_,(Option.some.inj hd).symm⟩
      · rw [ea,eb] at hd;simp [Datum.product] at hd
    · rw [ea] at hd
      cases hr:double.read b <;> rw [hr] at hd <;> simp [Datum.product] at hd
  unfold Format.mul at h
  cases hd:(double.read a).product (double.read b) with
  | none=>rw [hd] at h;simp at h
  | some d =>
    rw [hd] at h
    obtain ⟨s,e⟩:=key d hd
    have h:=Option.some.inj h
    rw [← h,e]
    exact inf_rg s
theorem add_tu {a b:Nat} (m:Int) (ha:W64 a) (hb:W64 b):Tu (addR a b m) (addR (fneg a) (fneg b) (turnI m)) m:=by
  by_cases hf:(fin a && fin b)=true
  · have fa:fin a=true:=by cases h:fin a <;> rw [h] at hf <;> simp at hf ⊢
    have fb:fin b=true:=by cases h:fin b <;> rw [h,fa] at hf <;> simp at hf ⊢
    exact Or.inr (addR_turn m ha hb fa fb)
  · have hf:(fin a && fin b)=false:=by simpa using hf
    rw [addR_no hf,addR_no (by rw [fin_fneg ha,fin_fneg hb];exact hf)]
    refine Tu.of_map (fun s h=>(add_opt h).1) ?_
    rcases read_cls ha with ⟨fa,ra⟩|⟨fa,_,ra,_⟩|⟨fa,na,_⟩
    · rcases read_cls hb with ⟨fb,rb⟩|⟨fb,_,rb,_⟩|⟨fb,nb,_⟩
      · rw [fa,fb] at hf;simp at hf
      · rw [dadd_comm,dadd_comm a b];exact add_infx hb ha rb
      · rw [dadd_comm,add_nan (fneg_w hb) (by rw [isn_fneg hb];exact nb),dadd_comm,add_nan hb nb];rfl
    · exact add_infx ha hb ra
    · rw [add_nan (fneg_w ha) (by rw [isn_fneg ha];exact na),add_nan ha na];rfl
theorem fmul_fneg {a b:Nat} (ha:W64 a) {p:Nat} (h:double.mul a b=some p):fmul (fneg a) b=fneg (fmul a b):=by
  rw [fmul_of h,fmul_of (z:=fneg p) (by rw [mul_fneg ha,h];rfl)]
theorem fusZ_fneg {a b c:Nat} (ha:W64 a) (hc:W64 c):fusZ (fneg a) b (fneg c)=-fusZ a b c:=by
  unfold fusZ;rw [fneg_val ha,fneg_val hc,Int.neg_mul,Int.neg_mul,Int.neg_add]
theorem NearW.turn {z:Int} {t:Nat} (h:NearW z t) (h0:z ≠ 0):NearW (-z) (fneg t):=by
  obtain ⟨r,h1,h2⟩:=h.r
  refine ⟨fneg_w h.w,⟨r,by rw [Int.natAbs_neg];exact h1,by rw [fneg_rg h.w];exact h2⟩,?_⟩
  rw [fneg_neg h.w,h.g]
  by_cases hn:z < 0
  · rw [decide_eq_true hn,decide_eq_false (by omega)];rfl
  · rw [decide_eq_false hn,decide_eq_true (by omega)];rfl
theorem fusS_fneg {a b c t:Nat} (ha:W64 a) (hc:W64 c) (ht:W64 t):fusS (fneg a) b (fneg c) (fneg t)=-fusS a b c t:=by
  unfold fusS
  rw [fusZ_fneg ha hc,fneg_val ht,← Int.sign_neg]
  congr 1
  rw [Int.neg_mul];omega
theorem fus_tu {a b c:Nat} (m:Int) (ha:W64 a) (hb:W64 b) (hc:W64 c):Tu (fusedR a b c m) (fusedR (fneg a) b (fneg c) (turnI m)) m:=by
  unfold fusedR
  rw [fin_fneg ha,fin_fneg hc,fneg_rg ha]
  by_cases hf:(fin a && fin b)=true
  · rw [if_pos hf,if_pos hf]
    have fa:fin a=true:=by cases h:fin a <;> rw [h] at hf <;> simp at hf ⊢
    have fb:fin b=true:=by cases h:fin b <;> rw [h,fa] at hf <;> simp at hf ⊢
    by_cases fc:fin c=true
    · rw [if_pos fc,if_pos fc]
      by_cases z0:rg a=0 ∨ rg b=0
      · rw [if_pos z0,if_pos z0]
        obtain ⟨p,_,hp,pw,_⟩:=mul64x ha hb (fin_r fa) (fin_r fb)
        rw [fmul_fneg ha hp,fmul_of hp]
        exact add_tu m pw hc
      · rw [if_neg z0,if_neg z0]
        by_cases hz:fusZ a b c=0
        · rw [if_pos hz,if_pos (show fusZ (fneg a) b (fneg c)=0 by rw [fusZ_fneg ha hc,hz];rfl)]
          obtain ⟨k1,k2,k3⟩:=zero_words (m:=m)
          exact Or.inr ⟨_,_,rfl,rfl,by split <;> exact w_const (by decide),by split <;> exact w_const (by decide),Or.inr ⟨k2,k3⟩,fun h=>(k1 h).symm⟩
        · have hz':fusZ (fneg a) b (fneg c) ≠ 0:=by rw [fusZ_fneg ha hc];omega
          rw [if_neg hz,if_neg hz']
          obtain ⟨t,ht,nt,tr⟩:=fus_near ha hb hc (fin_r fa) (fin_r fb) (fin_r fc) hz
          obtain ⟨t',ht',nt',_⟩:=fus_near (fneg_w ha) hb (fneg_w hc) (by rw [fneg_rg ha];exact fin_r fa) (fin_r fb) (by rw [fneg_rg hc];exact fin_r fc) hz'
          rw [fusZ_fneg ha hc] at nt'
          have e:t'=fneg t:=nt'.unique (nt.turn hz)
          subst e
          rw [ht,ht']
          refine Tu.of_map (fun s h=>?_) ?_
          · rw [← Option.some.inj h];exact settle_w nt.w tr
          · simp only [Option.map_some]
            rw [fusS_fneg ha hc nt.w,wayI_turn,settle_fneg nt.w tr (fun h0=>?_)]
            have v0:fusS a b c t=(fusZ a b c).sign:=by unfold fusS;rw [val_z h0,Int.zero_mul,Int.sub_zero]
            have sm:=sign_mono (v:=fusZ a b c)
            rw [v0,nt.g]
            constructor
            · intro h;exact sm.1 (by have:=of_decide_eq_false h;omega)
            · intro h;exact sm.2 (by have:=of_decide_eq_true h;omega)
    · rw [if_neg fc,if_neg fc,isn_fneg hc]
      refine Tu.of_map (fun s h=>?_) ?_
      · split at h
        · simp at h
        · rw [← Option.some.inj h];exact hc
      · split <;> rfl
  · rw [if_neg hf,if_neg hf]
    have hf:(fin a && fin b)=false:=by simpa using hf
    rw [mul_fneg ha]
    cases hp:double.mul a b with
    | none=>exact Or.inl ⟨rfl,rfl⟩
    | some p =>
      simp only [Option.map_some,Option.bind_some]
      exact Tu.of_map (fun s h=>(add_opt h).1) (add_infx (mul_opt hp).1 hc (mul_inf ha hb hf hp))
def nanO (a:Nat):Option Nat:=if isn a=true then none else some a
theorem one_read:double.read 4607182418800017408=.number false 4503599627370496 (-52):=by decide +kernel
theorem mg_one:mg B52 4607182418800017408=p2 1074:=by decide +kernel
theorem rg_one:rg 4607182418800017408=4607182418800017408:=by decide
theorem neg_one':neg 4607182418800017408=false:=by decide
theorem val_one:val 4607182418800017408=((p2 1074:Nat):Int):=by rw [val_eq',neg_one',rg_one,mg_one];rfl
theorem w_one:W64 4607182418800017408:=w_const (by decide)
theorem fin_one:fin 4607182418800017408=true:=by decide
theorem fin_nn {a:Nat} (h:fin a=true):nanO a=some a:=by unfold nanO;rw [fin_isn h];rfl
theorem mul_one' {a:Nat} (ha:W64 a):double.mul a 4607182418800017408=nanO a:=by
  rcases read_cls ha with ⟨fa,ra⟩|⟨fa,na,ra,ea⟩|⟨fa,na,s,p,ea⟩
  · rw [fin_nn fa]
    obtain ⟨p,r,hp,pw,pr,pn,hr⟩:=mul64x ha w_one ra (by rw [rg_one];decide)
    rw [rg_one,mg_one] at hr
    have e:r=rg a:=hr.unique B52_pos (p2_pos _) (IsRn.exact B52_pos (p2_pos _))
    rw [hp,w64_ext pw ha (by rw [pn,neg_one',Bool.xor_false]) (by rw [pr,e];omega)]
  · unfold nanO Format.mul
    rw [ea,one_read,na]
    show some (double.write (.infinity (neg a ^^ false)))=some a
    rw [write_inf,Bool.xor_false,← ra,← w64_wd ha]
  · unfold nanO Format.mul
    rw [ea,na];rfl
theorem div_one' {a:Nat} (ha:W64 a):double.div a 4607182418800017408=nanO a:=by
  rcases read_cls ha with ⟨fa,ra⟩|⟨fa,na,ra,ea⟩|⟨fa,na,s,p,ea⟩
  · rw [fin_nn fa]
    obtain ⟨p,r,hp,pw,pr,pn,hr⟩:=div64x ha w_one ra (by rw [rg_one];decide) (by rw [rg_one];decide)
    rw [rg_one,mg_one] at hr
    have e:r=rg a:=hr.unique B52_pos (p2_pos _) (IsRn.exact B52_pos (p2_pos _))
    rw [hp,w64_ext pw ha (by rw [pn,neg_one',Bool.xor_false]) (by rw [pr,e];omega)]
  · unfold nanO Format.div
    rw [ea,one_read,na]
    show some (double.write (.infinity (neg a ^^ false)))=some a
    rw [write_inf,Bool.xor_false,← ra,← w64_wd ha]
  · unfold nanO Format.div
    rw [ea,na];rfl
theorem settle_same {a:Nat} {m:Int} (h:rg a < 9218868437227405312):settleW a 0 m=a:=by
  unfold settleW
  rw [if_neg (by omega),if_neg (by omega)]
theorem mulR_one {a:Nat} (m:Int) (ha:W64 a):mulR a 4607182418800017408 m=nanO a:=by
  by_cases h:okB a 4607182418800017408=true
  · have hh:=h
    unfold okB at hh
    simp only [Bool.and_eq_true,Bool.not_eq_true',decide_eq_false_iff_not] at hh
    obtain ⟨⟨⟨fa,_⟩,_⟩,_⟩:=hh
    rw [mulR_ok h (by rw [mul_one' ha,fin_nn fa]),fin_nn fa,show mulS a 4607182418800017408 a=0 by unfold mulS;rw [val_one,Int.sub_self];rfl,settle_same (fin_r fa)]
  · rw [mulR_no (by simpa using h),mul_one' ha]
theorem divR_one {a:Nat} (m:Int) (ha:W64 a):divR a 4607182418800017408 m=nanO a:=by
  by_cases h:okB a 4607182418800017408=true
  · have hh:=h
    unfold okB at hh
    simp only [Bool.and_eq_true,Bool.not_eq_true',decide_eq_false_iff_not] at hh
    obtain ⟨⟨⟨fa,_⟩,_⟩,_⟩:=hh
    rw [divR_ok h (by rw [div_one' ha,fin_nn fa]),fin_nn fa,show divS a 4607182418800017408 a=0 by unfold divS;rw [val_one,Int.sub_self,Int.sign_zero,Int.zero_mul],settle_same (fin_r fa)]
  · rw [divR_no (by simpa using h),div_one' ha]
def LkN (o:Option Nat) (a:Nat):Prop:=(isn a=true∧o=none) ∨ (isn a=false∧∃ s,o=some s∧W64 s∧Lk s a)
theorem rg0:rg 0=0:=by decide
theorem val0':val 0=0:=val_z rg0
theorem w0:W64 0:=w_const (by decide)
theorem addR_zero {a:Nat} (m:Int) (ha:W64 a):LkN (addR a 0 m) a:=by
  rcases read_cls ha with ⟨fa,ra⟩|⟨fa,na,ra,ea⟩|⟨fa,na,_⟩
  · refine Or.inr ⟨fin_isn fa,?_⟩
    obtain ⟨s,r,hs,sw,hr,sr,sn,s0⟩:=add_val ha w0 ra (by decide)
    rw [val0',Int.add_zero] at hr sn s0
    rw [val_natAbs] at hr
    have e:r=rg a:=hr.unique B52_pos Nat.one_pos (by have:=IsRn.exact (B:=B52) (r:=rg a) (D:=1) B52_pos Nat.one_pos;rwa [Nat.mul_one] at this)
    have er:rg s=rg a:=by rw [sr,e];omega
    refine ⟨_,addR_fin fa (by decide) hs,addW_w sw (by omega),?_⟩
    unfold addW
    by_cases z0:rg s=0
    · rw [if_pos z0]
      refine Or.inr ⟨?_,by omega⟩
      split
      · exact z0
      · split <;> decide
    · rw [if_neg z0,if_neg (by omega)]
      have v0:val a ≠ 0:=fun h=>z0 (s0 h)
      have es:s=a:=by
        refine w64_ext sw ha ?_ er
        rw [sn v0,val_eq']
        have hm:0 < mg B52 (rg a):=by
          rcases Nat.eq_zero_or_pos (mg B52 (rg a)) with h|h
          · have:=val_natAbs a;rw [h] at this;omega
          · exact h
        cases neg a
        · simp
        · simp;omega
      subst es
      have:addE s 0 s=0:=by
        unfold addE
        rw [rg0,if_neg (by omega),sub_self64 ha ra,Option.getD_some,sub_self64 w0 (by decide),Option.getD_some]
        exact sgI_zero rg0
      rw [this,settle_same ra]
      exact Or.inl rfl
  · refine Or.inr ⟨na,a,?_,ha,Or.inl rfl⟩
    rw [addR_no (by rw [fa];rfl),dadd_comm,add_inf w0 ha (by decide) ra]
  · exact Or.inl ⟨na,by rw [addR_no (by rw [fa];rfl),add_nan ha na]⟩
theorem fusedR_one {a:Nat} (m:Int) (ha:W64 a):LkN (fusedR a 4607182418800017408 0 m) a:=by
  unfold fusedR
  rw [fin_one,show fin 0=true from by decide,Bool.and_true]
  rcases read_cls ha with ⟨fa,ra⟩|⟨fa,na,ra,ea⟩|⟨fa,na,_⟩
  · rw [if_pos fa,if_pos rfl]
    have hm:double.mul a 4607182418800017408=some a:=by rw [mul_one' ha,fin_nn fa]
    by_cases z0:rg a=0
    · rw [if_pos (Or.inl z0),fmul_of hm]
      exact addR_zero m ha
    · rw [if_neg (fun h=>h.elim z0 (by rw [rg_one];decide))]
      have ez:fusZ a 4607182418800017408 0=val a * ((p2 1074:Nat):Int):=by unfold fusZ;rw [val_one,val0',Int.zero_mul,Int.add_zero]
      have hmg:0 < mg B52 (rg a):=by
        have:=mg_lt_succ B52 (rg a - 1) B52_pos
        rw [show rg a - 1 + 1=rg a by omega] at this
        omega
      have hp:(0:Int) < ((p2 1074:Nat):Int):=by have:=p2_pos 1074;omega
      have v0:val a ≠ 0:=by have:=val_natAbs a;omega
      have z1:fusZ a 4607182418800017408 0 ≠ 0:=by rw [ez];exact Int.mul_ne_zero v0 (by omega)
      rw [if_neg z1]
      obtain ⟨t,ht,nt,tr⟩:=fus_near ha w_one w0 ra (by rw [rg_one];decide) (by decide) z1
      have na:NearW (fusZ a 4607182418800017408 0) a:=by
        rw [ez]
        refine ⟨ha,⟨rg a,?_,by omega⟩,?_⟩
        · rw [Int.natAbs_mul,val_natAbs]
          exact IsRn.exact B52_pos (p2_pos _)
        · have hs:(val a * ((p2 1074:Nat):Int) < 0) ↔ val a < 0:=by
            constructor
            · intro h
              rcases Int.lt_or_le (val a) 0 with h'|h'
              · exact h'
              · have:=Int.mul_nonneg h' (Int.le_of_lt hp);omega
            · intro h;exact Int.mul_neg_of_neg_of_pos h hp
          rw [decide_eq_decide.2 hs]
          have hv:=val_eq' a
          cases hn:neg a <;> rw [hn] at hv
          · exact (decide_eq_false (by simp at hv;omega)).symm
          · exact (decide_eq_true (by simp at hv;omega)).symm
      have et:t=a:=nt.unique na
      subst et
      rw [ht]
      refine Or.inr ⟨fin_isn fa,t,?_,ha,Or.inl rfl⟩
      simp only [Option.map_some]
      rw [show fusS t 4607182418800017408 0 t=0 by unfold fusS;rw [ez,Int.sub_self];rfl,settle_same ra]
  · rw [if_neg (by rw [fa];simp)]
    refine Or.inr ⟨na,a,?_,ha,Or.inl rfl⟩
    rw [mul_one' ha]
    unfold nanO
    rw [na]
    show double.add a 0=some a
    rw [dadd_comm,add_inf w0 ha (by decide) ra]
  · rw [if_neg (by rw [fa];simp)]
    refine Or.inl ⟨na,?_⟩
    rw [mul_one' ha]
    unfold nanO
    rw [na];rfl
def LkF (x y:Nat):Prop:=W64 x∧W64 y∧((isn x=true∧isn y=true) ∨ (isn x=false∧isn y=false∧Lk x y))
theorem Lk.isn {x y:Nat} (h:Lk x y):GFl.isn x=GFl.isn y:=by
  rcases h with h|h
  · rw [h]
  · rw [isn_eq,isn_eq,h.1,h.2]
theorem Lk.lkF {x y:Nat} (h:Lk x y) (hx:W64 x) (hy:W64 y):LkF x y:=by
  refine ⟨hx,hy,?_⟩
  have e:=h.isn
  cases hn:GFl.isn x
  · exact Or.inr ⟨rfl,by rw [← e,hn],h⟩
  · exact Or.inl ⟨rfl,by rw [← e,hn]⟩
theorem Fo.turn {o o':Option Nat} {r r':Nat} {m:Int} (h:Fo o r) (h':Fo o' r') (t:Tu o o' m):LkF (fneg r) r'∧(m=1 ∨ m=2→Fo (o.map fneg) r'):=by
  obtain ⟨w,h⟩:=h
  obtain ⟨w',h'⟩:=h'
  rcases t with ⟨e,e'⟩|⟨s,s',e,e',ws,ws',lk,eq⟩
  · subst e;subst e'
    exact ⟨⟨fneg_w w,w',Or.inl ⟨by rw [isn_fneg w];exact h,h'⟩⟩,fun _=>⟨w',h'⟩⟩
  · subst e;subst e'
    have h:r=s:=h
    have h':r'=s':=h'
    subst h;subst h'
    exact ⟨lk.lkF (fneg_w w) w',fun hm=>⟨w',eq hm⟩⟩
theorem Fo.like {o:Option Nat} {r a:Nat} (h:Fo o r) (ha:W64 a) (k:LkN o a):LkF r a:=by
  obtain ⟨w,h⟩:=h
  rcases k with ⟨n,e⟩|⟨n,s,e,ws,lk⟩
  · subst e;exact ⟨w,ha,Or.inl ⟨h,n⟩⟩
  · subst e
    have h:r=s:=h
    subst h
    exact lk.lkF w ha
end Go.Proofs.YtalhpbilkhdfhaaDoor
namespace Go.Proofs.YtalhpbilkhdfhaaDoor
open Go Go.RowKit GFl Ieee
set_option maxRecDepth 100000
set_option linter.unusedSimpArgs false
theorem awake03_c (w:World) (hT:Tab w):Calls Tryd.prog 13 #[] w fun e w2=>e=.returned (.bool true)∧Below w.heap.size w w2 :=
  awake03_of w fun _ h2=>rint_t (hT.below h2) join_r
end Go.Proofs.YtalhpbilkhdfhaaDoor
namespace Go.Proofs.YtalhpbilkhdfhaaDoor
open Go Go.RowKit GFl Ieee
set_option maxRecDepth 100000
set_option linter.unusedSimpArgs false
attribute [local go_sem] run_f64bits run_f64frombits run_neg_f64
theorem lk_plc {x y:Nat} (h:Lk x y):plc x=plc y:=by
  rcases h with h|h
  · rw [h]
  · rw [plc_eq,plc_eq,h.1,h.2];simp
theorem like_c (x y:Nat) (h:LkF x y) (w:World):Calls Tryd.prog 12 #[.float .f64 x,.float .f64 y] w fun e w'=>e=.returned (.bool true)∧w=w':=by
  obtain ⟨hx,hy,h⟩:=h
  have e1:=t_eq hx hy
  have e2:=t_ne_self hx
  have e3:=t_ne_self hy
  rcases h with ⟨h1,h2⟩|⟨h1,h2,h3⟩
  · rw [h1,h2] at e1
    rw [h1] at e2
    rw [h2] at e3
    clear hx hy h1 h2
    go_enter Tryd.func12,Tryd.ntmps12
    go_wp2
    all_goals go_ret
    all_goals first|exact ⟨rfl,rfl⟩|simp_all
  · rw [h1,h2,lk_plc h3] at e1
    simp at e1
    clear hx hy h1 h2 h3 e2 e3
    go_enter Tryd.func12,Tryd.ntmps12
    go_wp2
    all_goals go_ret
    all_goals first|exact ⟨rfl,rfl⟩|simp_all
theorem turned_c (m:Int) (w:World):Calls Tryd.prog 5 #[.int .i8 m] w fun e w'=>e=.returned (.int .i8 (turnI m))∧w=w':=by
  go_enter Tryd.func5,Tryd.ntmps5
  go_wp2
  all_goals go_ret
  all_goals exact ⟨ret_int (by unfold turnI;grind),rfl⟩
theorem roundTurned_x (a b c:Nat) (m:Int) (ha:W64 a) (hb:W64 b) (hc:W64 c) (w:World) (hT:Tab w) :
    Calls Tryd.prog 3 #[.float .f64 a,.float .f64 b,.float .f64 c,.int .i8 m] w fun e w'=>e=.returned (.bool true)∧Below w.heap.size w w':=by
  have na:=fneg_w ha
  have nb:=fneg_w hb
  have nc:=fneg_w hc
  obtain ⟨k,hk⟩:∃ k,turnI m=k:=⟨_,rfl⟩
  have TC:=Lib.hid (turned_c m)
  have TA:=add_tu m ha hb
  have TF:=fus_tu m ha hb hc
  rw [hk] at TC TA TF
  have A1:Hid (∀ w',Below w.heap.size w w'→Calls Tryd.prog 6 #[.float .f64 a,.float .f64 b,.int .i8 m] w' fun e w2=>∃ r,e=.returned (.float .f64 r)∧Fo (addR a b m) r∧Below w'.heap.size w' w2):=Lib.hid (fun w' h=>by exact radd_c a b m ha hb w')
  have A2:Hid (∀ w',Below w.heap.size w w'→Calls Tryd.prog 6 #[.float .f64 b,.float .f64 a,.int .i8 m] w' fun e w2=>∃ r,e=.returned (.float .f64 r)∧Fo (addR a b m) r∧Below w'.heap.size w' w2):=Lib.hid (fun w' h=>by rw [addR_comm m ha hb];exact radd_c b a m hb ha w')
  have A3:Hid (∀ w',Below w.heap.size w w'→Calls Tryd.prog 6 #[.float .f64 a,.float .f64 (fneg b),.int .i8 m] w' fun e w2=>∃ r,e=.returned (.float .f64 r)∧Fo (addR a (fneg b) m) r∧Below w'.heap.size w' w2):=Lib.hid (fun w' h=>by exact radd_c a (fneg b) m ha nb w')
  have A4:Hid (∀ w',Below w.heap.size w w'→Calls Tryd.prog 6 #[.float .f64 (fneg a),.float .f64 (fneg b),.int .i8 k] w' fun e w2=>∃ r,e=.returned (.float .f64 r)∧Fo (addR (fneg a) (fneg b) k) r∧Below w'.heap.size w' w2):=Lib.hid (fun w' h=>by exact radd_c (fneg a) (fneg b) k na nb w')
  have A5:Hid (∀ w' m',m'=m→Below w.heap.size w w'→Calls Tryd.prog 6 #[.float .f64 a,.float .f64 0,.int .i8 m'] w' fun e w2=>∃ r,e=.returned (.float .f64 r)∧Fo (addR a 0 m) r∧Below w'.heap.size w' w2):=Lib.hid (fun w' m' hm h=>by rw [hm];exact radd_c a 0 m ha w0 w')
  have S1:Hid (∀ w',Below w.heap.size w w'→Calls Tryd.prog 11 #[.float .f64 a,.float .f64 b,.int .i8 m] w' fun e w2=>∃ r,e=.returned (.float .f64 r)∧Fo (addR a (fneg b) m) r∧Below w'.heap.size w' w2):=Lib.hid (fun w' h=>by exact rsub_c a b m ha hb w')
  have M1:Hid (∀ w',Below w.heap.size w w'→Calls Tryd.prog 7 #[.float .f64 a,.float .f64 b,.int .i8 m] w' fun e w2=>∃ r,e=.returned (.float .f64 r)∧Fo (mulR a b m) r∧Below w'.heap.size w' w2):=Lib.hid (fun w' h=>by exact rmul_c a b m ha hb w' (hT.below h))
  have M2:Hid (∀ w',Below w.heap.size w w'→Calls Tryd.prog 7 #[.float .f64 b,.float .f64 a,.int .i8 m] w' fun e w2=>∃ r,e=.returned (.float .f64 r)∧Fo (mulR a b m) r∧Below w'.heap.size w' w2):=Lib.hid (fun w' h=>by rw [mulR_comm];exact rmul_c b a m hb ha w' (hT.below h))
  have M3:Hid (∀ w',Below w.heap.size w w'→Calls Tryd.prog 7 #[.float .f64 (fneg a),.float .f64 b,.int .i8 k] w' fun e w2=>∃ r,e=.returned (.float .f64 r)∧Fo ((mulR a b m).map fneg) r∧Below w'.heap.size w' w2):=Lib.hid (fun w' h=>by rw [← mulR_fneg m ha hb,hk];exact rmul_c (fneg a) b k na hb w' (hT.below h))
  have M4:Hid (∀ w' m',m'=m→Below w.heap.size w w'→Calls Tryd.prog 7 #[.float .f64 a,.float .f64 4607182418800017408,.int .i8 m'] w' fun e w2=>∃ r,e=.returned (.float .f64 r)∧Fo (nanO a) r∧Below w'.heap.size w' w2):=Lib.hid (fun w' m' hm h=>by rw [hm];rw [← mulR_one m ha];exact rmul_c a _ m ha w_one w' (hT.below h))
  have D1:Hid (∀ w',Below w.heap.size w w'→Calls Tryd.prog 8 #[.float .f64 a,.float .f64 b,.int .i8 m] w' fun e w2=>∃ r,e=.returned (.float .f64 r)∧Fo (divR a b m) r∧Below w'.heap.size w' w2):=Lib.hid (fun w' h=>by exact rdiv_c a b m ha hb w' (hT.below h))
  have D2:Hid (∀ w',Below w.heap.size w w'→Calls Tryd.prog 8 #[.float .f64 a,.float .f64 (fneg b),.int .i8 k] w' fun e w2=>∃ r,e=.returned (.float .f64 r)∧Fo ((divR a b m).map fneg) r∧Below w'.heap.size w' w2):=Lib.hid (fun w' h=>by rw [← divR_fneg m ha hb,hk];exact rdiv_c a (fneg b) k ha nb w' (hT.below h))
  have D3:Hid (∀ w' m',m'=m→Below w.heap.size w w'→Calls Tryd.prog 8 #[.float .f64 a,.float .f64 4607182418800017408,.int .i8 m'] w' fun e w2=>∃ r,e=.returned (.float .f64 r)∧Fo (nanO a) r∧Below w'.heap.size w' w2):=Lib.hid (fun w' m' hm h=>by rw [hm];rw [← divR_one m ha];exact rdiv_c a _ m ha w_one w' (hT.below h))
  have F1:Hid (∀ w',Below w.heap.size w w'→Calls Tryd.prog 9 #[.float .f64 a,.float .f64 b,.float .f64 c,.int .i8 m] w' fun e w2=>∃ r,e=.returned (.float .f64 r)∧Fo (fusedR a b c m) r∧Below w'.heap.size w' w2):=Lib.hid (fun w' h=>by exact rfused_c a b c m ha hb hc w' (hT.below h))
  have F2:Hid (∀ w',Below w.heap.size w w'→Calls Tryd.prog 9 #[.float .f64 b,.float .f64 a,.float .f64 c,.int .i8 m] w' fun e w2=>∃ r,e=.returned (.float .f64 r)∧Fo (fusedR a b c m) r∧Below w'.heap.size w' w2):=Lib.hid (fun w' h=>by rw [fusedR_comm];exact rfused_c b a c m hb ha hc w' (hT.below h))
  have F3:Hid (∀ w',Below w.heap.size w w'→Calls Tryd.prog 9 #[.float .f64 (fneg a),.float .f64 b,.float .f64 (fneg c),.int .i8 k] w' fun e w2=>∃ r,e=.returned (.float .f64 r)∧Fo (fusedR (fneg a) b (fneg c) k) r∧Below w'.heap.size w' w2):=Lib.hid (fun w' h=>by exact rfused_c (fneg a) b (fneg c) k na hb nc w' (hT.below h))
  have F4:Hid (∀ w' m',m'=m→Below w.heap.size w w'→Calls Tryd.prog 9 #[.float .f64 a,.float .f64 4607182418800017408,.float .f64 0,.int .i8 m'] w' fun e w2=>∃ r,e=.returned (.float .f64 r)∧Fo (fusedR a 4607182418800017408 0 m) r∧Below w'.heap.size w' w2):=Lib.hid (fun w' m' hm h=>by rw [hm];exact rfused_c a _ 0 m ha w_one w0 w' (hT.below h))
  have SF:Hid (∀ o r s w,Fo o r→Fo o s→Calls Tryd.prog 10 #[.float .f64 r,.float .f64 s] w fun e w'=>e=.returned (.bool true)∧w=w'):=Lib.hid (fun o r s w h k=>(sameFloat_c r s h.1 k.1 w).mono fun _ _ x=>⟨by rw [x.1,h.same k],x.2.symm⟩)
  have LK:Hid (∀ r s w,LkF r s→Calls Tryd.prog 12 #[.float .f64 r,.float .f64 s] w fun e w'=>e=.returned (.bool true)∧w=w'):=Lib.hid (fun r s w h=>like_c r s h w)
  have RN:Hid (Fo (nanO a) a):=Lib.hid (fo_nanOr ha)
  have LA:Hid (LkN (addR a 0 m) a):=Lib.hid (addR_zero m ha)
  have LF:Hid (LkN (fusedR a 4607182418800017408 0 m) a):=Lib.hid (fusedR_one m ha)
  have HW:Hid (W64 a):=Lib.hid ha
  have HTA:=Lib.hid TA
  have HTF:=Lib.hid TF
  have HA:Hid (∀ w',Below w.heap.size w w'→Calls Tryd.prog 13 #[] w' fun e w2=>e=.returned (.bool true)∧Below w'.heap.size w' w2):=Lib.hid (fun w' h=>awake03_c w' (hT.below h))
  have B0:=Lib.hid (Below.refl w.heap.size w)
  clear ha hb hc hT na nb nc hk TA TF
  go_enter Tryd.func3,Tryd.ntmps3
  go_wp2_with (first
    | (go_at_call 5;(with_reducible refine (TC.out _).mono ?_);rintro e w_ ⟨rfl,rfl⟩)
    | (go_at_call 6;(with_reducible refine (A1.out _ (by first|exact B0.out|exact bl_drew B0.out|exact bl_drewN B0.out _)).mono ?_);rintro e w_A1 ⟨r_A1,rfl,hr,hb⟩;have R_A1:=Lib.hid hr;have B0:=Lib.hid (bl_then (show Below w.heap.size w _ by first|exact B0.out|exact bl_drew B0.out|exact bl_drewN B0.out _) hb);clear hr hb)
    | (go_at_call 6;(with_reducible refine (A2.out _ (by first|exact B0.out|exact bl_drew B0.out|exact bl_drewN B0.out _)).mono ?_);rintro e w_A2 ⟨r_A2,rfl,hr,hb⟩;have R_A2:=Lib.hid hr;have B0:=Lib.hid (bl_then (show Below w.heap.size w _ by first|exact B0.out|exact bl_drew B0.out|exact bl_drewN B0.out _) hb);clear hr hb)
    | (go_at_call 6;(with_reducible refine (A3.out _ (by first|exact B0.out|exact bl_drew B0.out|exact bl_drewN B0.out _)).mono ?_);rintro e w_A3 ⟨r_A3,rfl,hr,hb⟩;have R_A3:=Lib.hid hr;have B0:=Lib.hid (bl_then (show Below w.heap.size w _ by first|exact B0.out|exact bl_drew B0.out|exact bl_drewN B0.out _) hb);clear hr hb)
    | (go_at_call 6;(with_reducible refine (A4.out _ (by first|exact B0.out|exact bl_drew B0.out|exact bl_drewN B0.out _)).mono ?_);rintro e w_A4 ⟨r_A4,rfl,hr,hb⟩;have R_A4:=Lib.hid hr;have B0:=Lib.hid (bl_then (show Below w.heap.size w _ by first|exact B0.out|exact bl_drew B0.out|exact bl_drewN B0.out _) hb);clear hr hb)
    | (go_at_call 6;(with_reducible refine (A5.out _ _ (by omega) (by first|exact B0.out|exact bl_drew B0.out|exact bl_drewN B0.out _)).mono ?_);rintro e w_A5 ⟨r_A5,rfl,hr,hb⟩;have R_A5:=Lib.hid hr;have B0:=Lib.hid (bl_then (show Below w.heap.size w _ by first|exact B0.out|exact bl_drew B0.out|exact bl_drewN B0.out _) hb);clear hr hb)
    | (go_at_call 11;(with_reducible refine (S1.out _ (by first|exact B0.out|exact bl_drew B0.out|exact bl_drewN B0.out _)).mono ?_);rintro e w_S1 ⟨r_S1,rfl,hr,hb⟩;have R_S1:=Lib.hid hr;have B0:=Lib.hid (bl_then (show Below w.heap.size w _ by first|exact B0.out|exact bl_drew B0.out|exact bl_drewN B0.out _) hb);clear hr hb)
    | (go_at_call 7;(with_reducible refine (M1.out _ (by first|exact B0.out|exact bl_drew B0.out|exact bl_drewN B0.out _)).mono ?_);rintro e w_M1 ⟨r_M1,rfl,hr,hb⟩;have R_M1:=Lib.hid hr;have B0:=Lib.hid (bl_then (show Below w.heap.size w _ by first|exact B0.out|exact bl_drew B0.out|exact bl_drewN B0.out _) hb);clear hr hb)
    | (go_at_call 7;(with_reducible refine (M2.out _ (by first|exact B0.out|exact bl_drew B0.out|exact bl_drewN B0.out _)).mono ?_);rintro e w_M2 ⟨r_M2,rfl,hr,hb⟩;have R_M2:=Lib.hid hr;have B0:=Lib.hid (bl_then (show Below w.heap.size w _ by first|exact B0.out|exact bl_drew B0.out|exact bl_drewN B0.out _) hb);clear hr hb)
    | (go_at_call 7;(with_reducible refine (M3.out _ (by first|exact B0.out|exact bl_drew B0.out|exact bl_drewN B0.out _)).mono ?_);rintro e w_M3 ⟨r_M3,rfl,hr,hb⟩;have R_M3:=Lib.hid hr;have B0:=Lib.hid (bl_then (show Below w.heap.size w _ by first|exact B0.out|exact bl_drew B0.out|exact bl_drewN B0.out _) hb);clear hr hb)
    | (go_at_call 7;(with_reducible refine (M4.out _ _ (by omega) (by first|exact B0.out|exact bl_drew B0.out|exact bl_drewN B0.out _)).mono ?_);rintro e w_M4 ⟨r_M4,rfl,hr,hb⟩;have R_M4:=Lib.hid hr;have B0:=Lib.hid (bl_then (show Below w.heap.size w _ by first|exact B0.out|exact bl_drew B0.out|exact bl_drewN B0.out _) hb);clear hr hb)
    | (go_at_call 8;(with_reducible refine (D1.out _ (by first|exact B0.out|exact bl_drew B0.out|exact bl_drewN B0.out _)).mono ?_);rintro e w_D1 ⟨r_D1,rfl,hr,hb⟩;have R_D1:=Lib.hid hr;have B0:=Lib.hid (bl_then (show Below w.heap.size w _ by first|exact B0.out|exact bl_drew B0.out|exact bl_drewN B0.out _) hb);clear hr hb)
    | (go_at_call 8;(with_reducible refine (D2.out _ (by first|exact B0.out|exact bl_drew B0.out|exact bl_drewN B0.out _)).mono ?_);rintro e w_D2 ⟨r_D2,rfl,hr,hb⟩;have R_D2:=Lib.hid hr;have B0:=Lib.hid (bl_then (show Below w.heap.size w _ by first|exact B0.out|exact bl_drew B0.out|exact bl_drewN B0.out _) hb);clear hr hb)
    | (go_at_call 8;(with_reducible refine (D3.out _ _ (by omega) (by first|exact B0.out|exact bl_drew B0.out|exact bl_drewN B0.out _)).mono ?_);rintro e w_D3 ⟨r_D3,rfl,hr,hb⟩;have R_D3:=Lib.hid hr;have B0:=Lib.hid (bl_then (show Below w.heap.size w _ by first|exact B0.out|exact bl_drew B0.out|exact bl_drewN B0.out _) hb);clear hr hb)
    | (go_at_call 9;(with_reducible refine (F1.out _ (by first|exact B0.out|exact bl_drew B0.out|exact bl_drewN B0.out _)).mono ?_);rintro e w_F1 ⟨r_F1,rfl,hr,hb⟩;have R_F1:=Lib.hid hr;have B0:=Lib.hid (bl_then (show Below w.heap.size w _ by first|exact B0.out|exact bl_drew B0.out|exact bl_drewN B0.out _) hb);clear hr hb)
    | (go_at_call 9;(with_reducible refine (F2.out _ (by first|exact B0.out|exact bl_drew B0.out|exact bl_drewN B0.out _)).mono ?_);rintro e w_F2 ⟨r_F2,rfl,hr,hb⟩;have R_F2:=Lib.hid hr;have B0:=Lib.hid (bl_then (show Below w.heap.size w _ by first|exact B0.out|exact bl_drew B0.out|exact bl_drewN B0.out _) hb);clear hr hb)
    | (go_at_call 9;(with_reducible refine (F3.out _ (by first|exact B0.out|exact bl_drew B0.out|exact bl_drewN B0.out _)).mono ?_);rintro e w_F3 ⟨r_F3,rfl,hr,hb⟩;have R_F3:=Lib.hid hr;have B0:=Lib.hid (bl_then (show Below w.heap.size w _ by first|exact B0.out|exact bl_drew B0.out|exact bl_drewN B0.out _) hb);clear hr hb)
    | (go_at_call 9;(with_reducible refine (F4.out _ _ (by omega) (by first|exact B0.out|exact bl_drew B0.out|exact bl_drewN B0.out _)).mono ?_);rintro e w_F4 ⟨r_F4,rfl,hr,hb⟩;have R_F4:=Lib.hid hr;have B0:=Lib.hid (bl_then (show Below w.heap.size w _ by first|exact B0.out|exact bl_drew B0.out|exact bl_drewN B0.out _) hb);clear hr hb)
    | (go_at_call 10;(with_reducible (first|refine (SF.out _ _ _ _ R_A1.out R_A2.out).mono ?_|refine (SF.out _ _ _ _ R_M1.out R_M2.out).mono ?_|refine (SF.out _ _ _ _ R_F1.out R_F2.out).mono ?_|refine (SF.out _ _ _ _ R_S1.out R_A3.out).mono ?_|refine (SF.out _ _ _ _ (Fo.opp R_M1.out rfl) R_M3.out).mono ?_|refine (SF.out _ _ _ _ (Fo.opp R_D1.out rfl) R_D2.out).mono ?_|refine (SF.out _ _ _ _ (Fo.opp R_A1.out rfl) ((Fo.turn R_A1.out R_A4.out HTA.out).2 (by omega))).mono ?_|refine (SF.out _ _ _ _ (Fo.opp R_F1.out rfl) ((Fo.turn R_F1.out R_F3.out HTF.out).2 (by omega))).mono ?_|refine (SF.out _ _ _ _ R_M4.out RN.out).mono ?_|refine (SF.out _ _ _ _ R_D3.out RN.out).mono ?_));rintro e w_ ⟨rfl,rfl⟩)
    | (go_at_call 12;(with_reducible (first|refine (LK.out _ _ _ (Fo.turn R_A1.out R_A4.out HTA.out).1).mono ?_|refine (LK.out _ _ _ (Fo.turn R_F1.out R_F3.out HTF.out).1).mono ?_|refine (LK.out _ _ _ (Fo.like R_A5.out HW.out LA.out)).mono ?_|refine (LK.out _ _ _ (Fo.like R_F4.out HW.out LF.out)).mono ?_));rintro e w_ ⟨rfl,rfl⟩)
    | (go_at_call 13;(with_reducible refine (HA.out _ (by first|exact B0.out|exact bl_drew B0.out|exact bl_drewN B0.out _)).mono ?_);rintro e w_ ⟨rfl,hb⟩;have hr:=hb;have B0:=Lib.hid (bl_then (show Below w.heap.size w _ by first|exact B0.out|exact bl_drew B0.out|exact bl_drewN B0.out _) hb);clear hr hb))
  all_goals go_ret
  all_goals exact ⟨by first|rfl|simp,by first|exact B0.out|exact bl_drewN B0.out _⟩
theorem roundTurned_c (a b c:Nat) (m:Int) (ha:W64 a) (hb:W64 b) (hc:W64 c) (w:World) (hT:Tab w) :
    Calls Tryd.prog 3 #[.float .f64 a,.float .f64 b,.float .f64 c,.int .i8 m] w fun e w'=>e=.returned (.bool true)∧Below w.heap.size w w':=roundTurned_x a b c m ha hb hc w hT
end Go.Proofs.YtalhpbilkhdfhaaDoor
namespace Go.Proofs.YtalhpbilkhdfhaaDoor
open Go Go.ChangeShapes Go.WideShapes Go.RowKit GFl
set_option maxRecDepth 100000
theorem Tryd.own:ownKnob Tryd.prog.godebug=none:=by kernel_rfl
theorem w64_of {x:Nat} (h:(Lit.float .f64 x).wf=true):W64 x:=W64.mk (by simpa [Lit.wf] using h)
theorem no_standIn {ps:Array TypeId} {fn:Func} (h:fn.params=ps) (hall:(ps.toList.all fun t=>!Tryd.prog.wantsStandIn t)=true):∀ (j:Nat) (t:TypeId),fn.params[j]?=some t→Tryd.prog.wantsStandIn t=false:=by
  intro j t ht
  rw [h] at ht
  have hm:t ∈ ps.toList:=by rw [Array.mem_toList_iff];exact Array.mem_of_getElem? ht
  have:=List.all_eq_true.1 hall t hm
  simpa using this
def tabZs:List Int:=Lib.deBruijn64tab.map fun (n:Nat)=>(n:Int)
def laidL : List (String × DataW Unit) := [("math/bits.deBruijn64tab", Rows.laid_math_bits_deBruijn64tab)]
theorem laidL_eq : laidL = ("math/bits.deBruijn64tab", Lib.tabData .u8 tabZs) :: [] := by kernel_rfl
theorem tab_named : Tryd.prog.globalNamed "math/bits.deBruijn64tab" = some 1 := by kernel_rfl
theorem tab_type:(Tryd.prog.globals[1]?).map (·.type)=some 109:=by kernel_rfl
theorem tab_of_laid {W:World} (h:laidMet Tryd.prog laidL W):Tab W:=by
  rw [laidL_eq] at h
  have ht:=Lib.tabIs_of_head tab_named tab_type Tryd.underlying109 Tryd.underlying5 (by kernel_rfl) (by kernel_rfl) h
  intro j hj
  have hc:=ht.cell tab_named j (by simpa [tabZs] using hj)
  rw [hc]
  congr 2
  simp [tabZs,List.getD,hj]
def tabCells:Array Value:=(tabZs.map fun z=>Value.int .u8 z).toArray
noncomputable def laidWorld (os:Os):World :=
  { World.holding Tryd.prog os ⟨#[],#[],[]⟩ with heap:=(World.holding Tryd.prog os ⟨#[],#[],[]⟩).heap.modify 1 fun
      | .cells _ t frozen=>.cells tabCells t frozen
      | o=>o }
theorem laidWorld_row (os:Os) (args:Array Value):((laidWorld os).forCall (fun _ _=>0) ⟨#[],args,[]⟩).memory.heap[1]?=some (.cells tabCells 109 (0,0)):=by kernel_rfl
theorem tab_places:((MemPlace.row ⟨1,0,none⟩ tabCells.size ++ ([]:List MemPlace) ++ []).Nodup):=by decide
theorem laidWorld_met (os:Os) (args:Array Value):laidMet Tryd.prog laidL ((laidWorld os).forCall (fun _ _=>0) ⟨#[],args,[]⟩).memory:=by
  refine ⟨_,⟨1,109,tabCells,8,[],[],by kernel_rfl,by kernel_rfl,by kernel_rfl,by kernel_rfl,rfl,rfl⟩,tab_places,fun b off h=>?_⟩
  have h':MemPlace.cell b off ∈ (MemPlace.row ⟨1,0,none⟩ tabCells.size:List MemPlace):=by simpa using h
  have hall:(MemPlace.row ⟨1,0,none⟩ tabCells.size:List MemPlace).all (fun p=>match p with|.cell b _=>b == 1|_=>false)=true:=by decide
  have hb:=List.all_eq_true.1 hall _ h'
  obtain rfl:b=1:=by simpa using hb
  refine ⟨⟨_,_,laidWorld_row os args⟩,fun u v hc=>?_⟩
  exfalso
  simp only [World.cell?,laidWorld_row os args] at hc
  have hc':tabCells[off]?=some (.iface u v):=by simpa using hc
  unfold tabCells at hc'
  simp at hc'
end Go.Proofs.YtalhpbilkhdfhaaDoor
