import Derived.Test.YtalhpbilkhdfhaaDoorTRTc
namespace Go.Proofs.YtalhpbilkhdfhaaDoor.XBn
open Go.RowKit Go.Proofs.YtalhpbilkhdfhaaDoorW.PrintWords Go.Proofs.YtalhpbilkhdfhaaDoorW.PrintLast Go.Proofs.YtalhpbilkhdfhaaDoorW.PrintMore
attribute [local go_sem] max2_int min2_int max_two min_two max_three min_three max_four min_four
set_option linter.unusedVariables false
set_option linter.unusedSimpArgs false
def bignum_cmp.l0:Nat→List Int→List Int→Int→Option (Int)
  | 0,_,_,_=>none
  | k + 1,x0,x1,x5=>if x5 ≥ 0 then (if 0≤x5 then (if x5 < (x0.length:Int) then (if x5 < (x1.length:Int) then (if (rd x0 x5)=(rd x1 x5) then (bignum_cmp.l0 k x0 x1 (wrap64 (x5 - 1))) else (if (rd x0 x5) < (rd x1 x5) then (some (-1)) else (some 1))) else (none)) else (none)) else (none)) else (some 0)
def bignum_cmp.f (k:Nat) (l0:List Int) (l1:List Int):Option (Int):=if (l0.length:Int)=(l1.length:Int) then (bignum_cmp.l0 k l0 l1 (wrap64 ((l0.length:Int) - 1))) else (if (l0.length:Int) < (l1.length:Int) then (some (-1)) else (some 1))
theorem bignum_cmp.mono_l:∀ k,(∀ y0 y1 y2,LeO (bignum_cmp.l0 k y0 y1 y2) (bignum_cmp.l0 (k + 1) y0 y1 y2))
  | 0=>fun _ _ _ r h=>by simp [bignum_cmp.l0] at h
  | k + 1=>by
    have ih0:=bignum_cmp.mono_l k
    · intro y0 y1 y2
      unfold bignum_cmp.l0
      repeat' first
      | (with_reducible exact ih0 _ _ _)
      | (with_reducible exact LeO.refl _)
      | (with_reducible exact LeO.none _)
      | (with_reducible refine LeO.ite ?_ ?_)
      | (with_reducible refine LeO.bind ?_ (fun _=>?_))
      | exact ih0 _ _ _
      | exact LeO.none _
      | refine LeO.ite ?_ ?_
      | refine LeO.bind ?_ (fun _=>?_)
theorem bignum_cmp.mono:∀ a0 a1 k,LeO (bignum_cmp.f k a0 a1) (bignum_cmp.f (k + 1) a0 a1):=by
  intro a0 a1 k
  have ih0:=bignum_cmp.mono_l k
  unfold bignum_cmp.f
  repeat' first
      | (with_reducible exact ih0 _ _ _)
      | (with_reducible exact LeO.refl _)
      | (with_reducible exact LeO.none _)
      | (with_reducible refine LeO.ite ?_ ?_)
      | (with_reducible refine LeO.bind ?_ (fun _=>?_))
      | exact ih0 _ _ _
      | exact LeO.none _
      | refine LeO.ite ?_ ?_
      | refine LeO.bind ?_ (fun _=>?_)
set_option maxHeartbeats 8000000 in
set_option maxRecDepth 100000 in
theorem bignum_cmp.calls (k:Nat) (A0:Option Addr) (c0:Nat) (l0:List Int) (A1:Option Addr) (c1:Nat) (l1:List Int) (r:Int) (w:World) (hr0:Kd.C (Kd.int .u32) w A0 l0.length l0) (hc0:l0.length≤c0) (hr1:Kd.C (Kd.int .u32) w A1 l1.length l1) (hc1:l1.length≤c1) (h:bignum_cmp.f k l0 l1=some r) :
    Calls Tryd.prog 76 #[.slice A0 l0.length c0,.slice A1 l1.length c1] w fun e w'=>e=.returned (.int .i64 r)∧Drawn0 w w':=by
  have HR0:=Aside0.mk hr0
  have HC0:=Aside0.mk hc0
  clear hr0 hc0
  have HR1:=Aside0.mk hr1
  have HC1:=Aside0.mk hc1
  clear hr1 hc1
  have H:(if (l0.length:Int)=(l1.length:Int) then (bignum_cmp.l0 k l0 l1 (wrap64 ((l0.length:Int) - 1))) else (if (l0.length:Int) < (l1.length:Int) then (some (-1)) else (some 1)))=some r:=h
  clear h
  by_cases c3:(l0.length:Int)=(l1.length:Int)
  · rw [if_pos c3] at H
    have c3b0:((l0.length:Int) == (l1.length:Int))=true:=beq_iff_eq.mpr c3
    have c3b1:((l0.length:Int) != (l1.length:Int))=false:=bne_eq_false_iff_eq.mpr c3
    have c3b2:(l0.length == l1.length)=true:=by first|simpa using c3|(simp at c3 ⊢;omega)
    clear c3
    have H':=Aside0.mk H
    clear H
    go_enter Tryd.func76,Tryd.ntmps76
    go_wp2
    repeat (go_quiet (fail);try go_wp2)
    go_loopg [5] k (fun kq v5 w'=>∃ (x5_1:Int),v5=.int .i64 x5_1∧Aside0 (bignum_cmp.l0 kq l0 l1 x5_1=some r)∧Aside0 (kq≤k)∧Drawn0 w w')
    case atStart=>exact ⟨(wrap64 ((l0.length:Int) - 1)),(by first|rfl|(simp;done)|(simp [*];done)),H',⟨Nat.le_refl _⟩,by repeat (first|exact Drawn0.refl _|apply Drawn0.step)⟩
    case round =>
      clear H'
      try clear c1
      try clear p2
      try clear c3
      try clear c3b0
      try clear c3b1
      try clear c3b2
      obtain ⟨x5_1,rfl,HA,HK1,⟨m1,rfl⟩⟩:=hrel
      cases gk with
      | zero=>exact absurd HA.out (by simp [bignum_cmp.l0])
      | succ k1 =>
        have H:=HA.out
        clear HA
        simp only [bignum_cmp.l0] at H
        by_cases c4:x5_1 ≥ 0
        · rw [if_pos c4] at H
          have c4b0:decide (0≤x5_1)=true:=decide_eq_true c4
          clear c4
          by_cases c5:0≤x5_1
          · rw [if_pos c5] at H
            have c5b0:decide (0≤x5_1)=true:=decide_eq_true c5
            clear c5
            by_cases c6:x5_1 < (l0.length:Int)
            · rw [if_pos c6] at H
              have c6b0:decide (x5_1 < (l0.length:Int))=true:=decide_eq_true c6
              clear c6
              by_cases c7:x5_1 < (l1.length:Int)
              · rw [if_pos c7] at H
                have c7b0:decide (x5_1 < (l1.length:Int))=true:=decide_eq_true c7
                clear c7
                by_cases c8:(rd l0 x5_1)=(rd l1 x5_1)
                · rw [if_pos c8] at H
                  have c8b0:((rd l0 x5_1) == (rd l1 x5_1))=true:=beq_iff_eq.mpr c8
                  have c8b1:((rd l0 x5_1) != (rd l1 x5_1))=false:=bne_eq_false_iff_eq.mpr c8
                  clear c8
                  have H':=Aside0.mk H
                  clear H
                  have p129:0≤(x5_1:Int):=of_decide_eq_true (by first|(with_reducible assumption)|assumption)
                  have q129:x5_1 < (l0.length:Int):=of_decide_eq_true (by first|(with_reducible assumption)|assumption)
                  obtain ⟨ad129,e129,hx129_0⟩:=Kd.at_int HR0.out x5_1 p129 q129
                  cases e129
                  replace p129:=eq_true p129
                  replace q129:=eq_true q129
                  have p130:0≤(x5_1:Int):=of_decide_eq_true (by first|(with_reducible assumption)|assumption)
                  have q130:x5_1 < (l1.length:Int):=of_decide_eq_true (by first|(with_reducible assumption)|assumption)
                  obtain ⟨ad130,e130,hx130_0⟩:=Kd.at_int HR1.out x5_1 p130 q130
                  cases e130
                  replace p130:=eq_true p130
                  replace q130:=eq_true q130
                  go_wp2
                  repeat (go_quiet (fail);try go_wp2)
                  go_roundg k1
                  case measure=>have:=HK1.out;omega
                  case rel=>exact ⟨(wrap64 (x5_1 - 1)),(by first|rfl|(simp;done)|(simp [*];done)),H',⟨by have:=HK1.out;omega⟩,by repeat (first|exact Drawn0.refl _|apply Drawn0.step)⟩
                · rw [if_neg c8] at H
                  have c8b0:((rd l0 x5_1) == (rd l1 x5_1))=false:=beq_eq_false_iff_ne.mpr c8
                  have c8b1:((rd l0 x5_1) != (rd l1 x5_1))=true:=bne_iff_ne.mpr c8
                  by_cases c9:(rd l0 x5_1) < (rd l1 x5_1)
                  · rw [if_pos c9] at H
                    have c9b0:decide ((rd l0 x5_1) < (rd l1 x5_1))=true:=decide_eq_true c9
                    clear c9
                    obtain rfl:=Option.some.inj H
                    have p129:0≤(x5_1:Int):=of_decide_eq_true (by first|(with_reducible assumption)|assumption)
                    have q129:x5_1 < (l0.length:Int):=of_decide_eq_true (by first|(with_reducible assumption)|assumption)
                    obtain ⟨ad129,e129,hx129_0⟩:=Kd.at_int HR0.out x5_1 p129 q129
                    cases e129
                    replace p129:=eq_true p129
                    replace q129:=eq_true q129
                    have p130:0≤(x5_1:Int):=of_decide_eq_true (by first|(with_reducible assumption)|assumption)
                    have q130:x5_1 < (l1.length:Int):=of_decide_eq_true (by first|(with_reducible assumption)|assumption)
                    obtain ⟨ad130,e130,hx130_0⟩:=Kd.at_int HR1.out x5_1 p130 q130
                    cases e130
                    replace p130:=eq_true p130
                    replace q130:=eq_true q130
                    have p131:0≤(x5_1:Int):=of_decide_eq_true (by first|(with_reducible assumption)|assumption)
                    have q131:x5_1 < (l0.length:Int):=of_decide_eq_true (by first|(with_reducible assumption)|assumption)
                    obtain ⟨ad131,e131,hx131_0⟩:=Kd.at_int HR0.out x5_1 p131 q131
                    obtain rfl:ad129=ad131:=(by injection e131)
                    replace p131:=eq_true p131
                    replace q131:=eq_true q131
                    have p132:0≤(x5_1:Int):=of_decide_eq_true (by first|(with_reducible assumption)|assumption)
                    have q132:x5_1 < (l1.length:Int):=of_decide_eq_true (by first|(with_reducible assumption)|assumption)
                    obtain ⟨ad132,e132,hx132_0⟩:=Kd.at_int HR1.out x5_1 p132 q132
                    obtain rfl:ad130=ad132:=(by injection e132)
                    replace p132:=eq_true p132
                    replace q132:=eq_true q132
                    go_wp2
                    repeat (go_quiet (fail);try go_wp2)
                    go_ret
                    exact ⟨by first|rfl|(simp;done)|(simp [*];done),by repeat (first|exact Drawn0.refl _|apply Drawn0.step)⟩
                  · rw [if_neg c9] at H
                    have c9b0:decide ((rd l0 x5_1) < (rd l1 x5_1))=false:=decide_eq_false c9
                    clear c9
                    obtain rfl:=Option.some.inj H
                    have p129:0≤(x5_1:Int):=of_decide_eq_true (by first|(with_reducible assumption)|assumption)
                    have q129:x5_1 < (l0.length:Int):=of_decide_eq_true (by first|(with_reducible assumption)|assumption)
                    obtain ⟨ad129,e129,hx129_0⟩:=Kd.at_int HR0.out x5_1 p129 q129
                    cases e129
                    replace p129:=eq_true p129
                    replace q129:=eq_true q129
                    have p130:0≤(x5_1:Int):=of_decide_eq_true (by first|(with_reducible assumption)|assumption)
                    have q130:x5_1 < (l1.length:Int):=of_decide_eq_true (by first|(with_reducible assumption)|assumption)
                    obtain ⟨ad130,e130,hx130_0⟩:=Kd.at_int HR1.out x5_1 p130 q130
                    cases e130
                    replace p130:=eq_true p130
                    replace q130:=eq_true q130
                    have p131:0≤(x5_1:Int):=of_decide_eq_true (by first|(with_reducible assumption)|assumption)
                    have q131:x5_1 < (l0.length:Int):=of_decide_eq_true (by first|(with_reducible assumption)|assumption)
                    obtain ⟨ad131,e131,hx131_0⟩:=Kd.at_int HR0.out x5_1 p131 q131
                    obtain rfl:ad129=ad131:=(by injection e131)
                    replace p131:=eq_true p131
                    replace q131:=eq_true q131
                    have p132:0≤(x5_1:Int):=of_decide_eq_true (by first|(with_reducible assumption)|assumption)
                    have q132:x5_1 < (l1.length:Int):=of_decide_eq_true (by first|(with_reducible assumption)|assumption)
                    obtain ⟨ad132,e132,hx132_0⟩:=Kd.at_int HR1.out x5_1 p132 q132
                    obtain rfl:ad130=ad132:=(by injection e132)
                    replace p132:=eq_true p132
                    replace q132:=eq_true q132
                    go_wp2
                    repeat (go_quiet (fail);try go_wp2)
                    go_ret
                    exact ⟨by first|rfl|(simp;done)|(simp [*];done),by repeat (first|exact Drawn0.refl _|apply Drawn0.step)⟩
              · rw [if_neg c7] at H
                exact absurd H (by simp)
            · rw [if_neg c6] at H
              exact absurd H (by simp)
          · rw [if_neg c5] at H
            exact absurd H (by simp)
        · rw [if_neg c4] at H
          have c4b0:decide (0≤x5_1)=false:=decide_eq_false c4
          clear c4
          obtain rfl:=Option.some.inj H
          go_wp2
          repeat (go_quiet (fail);try go_wp2)
          go_ret
          exact ⟨by first|rfl|(simp;done)|(simp [*];done),by repeat (first|exact Drawn0.refl _|apply Drawn0.step)⟩
  · rw [if_neg c3] at H
    have c3b0:((l0.length:Int) == (l1.length:Int))=false:=beq_eq_false_iff_ne.mpr c3
    have c3b1:((l0.length:Int) != (l1.length:Int))=true:=bne_iff_ne.mpr c3
    have c3b2:(l0.length == l1.length)=false:=by first|simpa using c3|(simp at c3 ⊢;omega)
    by_cases c10:(l0.length:Int) < (l1.length:Int)
    · rw [if_pos c10] at H
      have c10b0:decide ((l0.length:Int) < (l1.length:Int))=true:=decide_eq_true c10
      have c10b1:decide (l0.length < l1.length)=true:=decide_eq_true (Int.ofNat_lt.mp c10)
      clear c10
      obtain rfl:=Option.some.inj H
      go_enter Tryd.func76,Tryd.ntmps76
      go_wp2
      repeat (go_quiet (fail);try go_wp2)
      go_ret
      exact ⟨by first|rfl|(simp;done)|(simp [*];done),by repeat (first|exact Drawn0.refl _|apply Drawn0.step)⟩
    · rw [if_neg c10] at H
      have c10b0:decide ((l0.length:Int) < (l1.length:Int))=false:=decide_eq_false c10
      have c10b1:decide (l0.length < l1.length)=false:=decide_eq_false (fun h=>c10 (Int.ofNat_lt.mpr h))
      clear c10
      obtain rfl:=Option.some.inj H
      go_enter Tryd.func76,Tryd.ntmps76
      go_wp2
      repeat (go_quiet (fail);try go_wp2)
      go_ret
      exact ⟨by first|rfl|(simp;done)|(simp [*];done),by repeat (first|exact Drawn0.refl _|apply Drawn0.step)⟩
def bignum_left.l0:Nat→List Int→Int→Int→List Int→Int→Option (List Int)
  | 0,_,_,_,_,_=>none
  | k + 1,x0,x5,x6,x7,x8=>if x8 < (x0.length:Int) then (if 0≤x8 then (if 0≤x6 then (if 0≤(wrap64 (x8 + x5)) then (if (wrap64 (x8 + x5)) < (x7.length:Int) then ((some (x7.set ((wrap64 (x8 + x5)):Int).toNat (Go.bits .or .u32 (rd x7 (wrap64 (x8 + x5))) ((shl .u64 (IntKind.u64.wrap (rd x0 x8)) x6) % 4294967296)):List Int)).bind fun y138=>(if 0≤(wrap64 ((wrap64 (x8 + x5)) + 1)) then (if (wrap64 ((wrap64 (x8 + x5)) + 1)) < (x7.length:Int) then (bignum_left.l0 k x0 x5 x6 (y138.set ((wrap64 ((wrap64 (x8 + x5)) + 1)):Int).toNat (Go.bits .or .u32 (rd y138 (wrap64 ((wrap64 (x8 + x5)) + 1))) (((shl .u64 (IntKind.u64.wrap (rd x0 x8)) x6) / 4294967296) % 4294967296))) (wrap64 (x8 + 1))) else (none)) else (none))) else (none)) else (none)) else (none)) else (none)) else ((bignum_trim.f k x7).bind fun t141=>(some t141))
def bignum_left.f (k:Nat) (l0:List Int) (a1:Int):Option (List Int):=if (l0.length:Int)=0 then (some ([]:List Int)) else (if 0≤(wrap64 ((wrap64 ((l0.length:Int) + (wrap64 (IntKind.u64.wrap (Int.tdiv a1 32))))) + 1)) then (if (wrap64 ((wrap64 ((l0.length:Int) + (wrap64 (IntKind.u64.wrap (Int.tdiv a1 32))))) + 1):Int).toNat≤70368744177664 then (bignum_left.l0 k l0 (wrap64 (IntKind.u64.wrap (Int.tdiv a1 32))) (Int.tmod a1 32) (List.replicate (wrap64 ((wrap64 ((l0.length:Int) + (wrap64 (IntKind.u64.wrap (Int.tdiv a1 32))))) + 1):Int).toNat 0) 0) else (none)) else (none))
theorem bignum_left.mono_l:∀ k,(∀ y0 y1 y2 y3 y4,LeO (bignum_left.l0 k y0 y1 y2 y3 y4) (bignum_left.l0 (k + 1) y0 y1 y2 y3 y4))
  | 0=>fun _ _ _ _ _ r h=>by simp [bignum_left.l0] at h
  | k + 1=>by
    have ih0:=bignum_left.mono_l k
    · intro y0 y1 y2 y3 y4
      unfold bignum_left.l0
      repeat' first
      | (with_reducible exact ih0 _ _ _ _ _)
      | (with_reducible exact bignum_trim.mono _ _)
      | (with_reducible exact LeO.refl _)
      | (with_reducible exact LeO.none _)
      | (with_reducible refine LeO.ite ?_ ?_)
      | (with_reducible refine LeO.bind ?_ (fun _=>?_))
      | exact ih0 _ _ _ _ _
      | exact bignum_trim.mono _ _
      | exact LeO.none _
      | refine LeO.ite ?_ ?_
      | refine LeO.bind ?_ (fun _=>?_)
theorem bignum_left.mono:∀ a0 a1 k,LeO (bignum_left.f k a0 a1) (bignum_left.f (k + 1) a0 a1):=by
  intro a0 a1 k
  have ih0:=bignum_left.mono_l k
  unfold bignum_left.f
  repeat' first
      | (with_reducible exact ih0 _ _ _ _ _)
      | (with_reducible exact bignum_trim.mono _ _)
      | (with_reducible exact LeO.refl _)
      | (with_reducible exact LeO.none _)
      | (with_reducible refine LeO.ite ?_ ?_)
      | (with_reducible refine LeO.bind ?_ (fun _=>?_))
      | exact ih0 _ _ _ _ _
      | exact bignum_trim.mono _ _
      | exact LeO.none _
      | refine LeO.ite ?_ ?_
      | refine LeO.bind ?_ (fun _=>?_)
set_option maxHeartbeats 8000000 in
set_option maxRecDepth 100000 in
theorem bignum_left.calls (k:Nat) (A0:Option Addr) (c0:Nat) (l0:List Int) (a1:Int) (r:List Int) (w:World) (hr0:Kd.C (Kd.int .u32) w A0 l0.length l0) (hc0:l0.length≤c0) (h:bignum_left.f k l0 a1=some r) :
    Calls Tryd.prog 70 #[.slice A0 l0.length c0,.int .u64 a1] w fun e w'=>∃ v0_:Value,e=.returned (v0_)∧Kd.R (Kd.int .u32) 96 w' w.heap.size (fun _=>True) v0_ r∧Below w.heap.size w w':=by
  have HR0:=Aside0.mk hr0
  have HC0:=Aside0.mk hc0
  clear hr0 hc0
  have HB:=Aside0.mk (Below.refl w.heap.size w)
  have H:(if (l0.length:Int)=0 then (some ([]:List Int)) else (if 0≤(wrap64 ((wrap64 ((l0.length:Int) + (wrap64 (IntKind.u64.wrap (Int.tdiv a1 32))))) + 1)) then (if (wrap64 ((wrap64 ((l0.length:Int) + (wrap64 (IntKind.u64.wrap (Int.tdiv a1 32))))) + 1):Int).toNat≤70368744177664 then (bignum_left.l0 k l0 (wrap64 (IntKind.u64.wrap (Int.tdiv a1 32))) (Int.tmod a1 32) (List.replicate (wrap64 ((wrap64 ((l0.length:Int) + (wrap64 (IntKind.u64.wrap (Int.tdiv a1 32))))) + 1):Int).toNat 0) 0) else (none)) else (none)))=some r:=h
  clear h
  by_cases c3:(l0.length:Int)=0
  · rw [if_pos c3] at H
    have c3b0:((l0.length:Int) == 0)=true:=beq_iff_eq.mpr c3
    have c3b1:((l0.length:Int) != 0)=false:=bne_eq_false_iff_eq.mpr c3
    clear c3
    obtain rfl:=Option.some.inj H
    go_enter Tryd.func70,Tryd.ntmps70
    go_wp2
    go_ret
    exact ⟨_,by first|rfl|(simp [errW_none,errW_some] <;> rfl)|(simp [*,errW_none,errW_some] <;> rfl),by first|exact Kd.R_nil _ _ _ _ _|exact Kd.N_nil _ _ _ _ _|exact Kd.V_nil _ _ _ _ _|exact Kd.Q_nil _ _ _ _ _|exact Kd.S_nil _ _ _ _ _,by repeat (first|(with_reducible first|exact HB.out|apply below_alloc|apply pw_below_drewN|apply below_drew1)|exact HB.out)⟩
  · rw [if_neg c3] at H
    have c3b0:((l0.length:Int) == 0)=false:=beq_eq_false_iff_ne.mpr c3
    have c3b1:((l0.length:Int) != 0)=true:=bne_iff_ne.mpr c3
    have c3b2:¬ (l0=[]):=fun h_=>c3 (by rw [h_];rfl)
    obtain ⟨ji4,hji4⟩:∃ j_:Int,(wrap64 ((wrap64 ((l0.length:Int) + (wrap64 (IntKind.u64.wrap (Int.tdiv a1 32))))) + 1))=j_:=⟨_,rfl⟩
    replace H:(if 0≤(ji4) then (if (ji4:Int).toNat≤70368744177664 then (bignum_left.l0 k l0 (wrap64 (IntKind.u64.wrap (Int.tdiv a1 32))) (Int.tmod a1 32) (List.replicate (ji4:Int).toNat 0) 0) else (none)) else (none))=some r:=by first|(rw [hji4] at H;exact H)|(simp only [hji4] at H ⊢;exact H)
    have hji4w:(IntKind.i64.wrap ((wrap64 ((l0.length:Int) + (wrap64 (IntKind.u64.wrap (Int.tdiv a1 32))))) + 1))=ji4:=(i64_w _).trans hji4
    by_cases c5:0≤(ji4)
    · rw [if_pos c5] at H
      have c5b0:=eq_true c5
      have c5b1:decide (0≤(ji4))=true:=decide_eq_true c5
      clear c5
      by_cases c6:(ji4:Int).toNat≤70368744177664
      · rw [if_pos c6] at H
        have c6b0:=eq_true c6
        have c6b1:decide ((ji4:Int).toNat≤70368744177664)=true:=decide_eq_true c6
        clear c6
        obtain ⟨y133,hy133⟩:∃ y_:List Int,y_=(List.replicate (ji4:Int).toNat 0):=⟨_,rfl⟩
        replace H:(bignum_left.l0 k l0 (wrap64 (IntKind.u64.wrap (Int.tdiv a1 32))) (Int.tmod a1 32) y133 0)=some r:=by first|(rw [hy133];with_reducible exact H)|(have H2_:=(Option.bind_some _ _).symm.trans H;rw [hy133];with_reducible exact H2_)|(have H2_:=(Option.bind_some _ _).symm.trans H;with_reducible exact H2_)|with_reducible exact H|(rw [hy133];exact H)|exact H
        have Ny133:=Aside0.mk hy133
        clear hy133
        have H':=Aside0.mk H
        clear H
        go_enter Tryd.func70,Tryd.ntmps70
        go_wp2_with (first|((with_reducible refine gate_dst (N:=23) rfl ?_);refine Kd.R_make (Kd.int .u32) _ 96 rfl (N:=23) rfl 74 _ _ rfl ji4 rfl rfl Tryd.underlying74 (.int .u32 0) 4 info96 rfl (by decide) (by omega) 0 (ok:=fun _=>True) (okp:=fun _=>True) rfl (fun _ hk=>hk) trivial (of_decide_eq_true (by first|(with_reducible assumption)|assumption)) (Nat.le_trans (Nat.mul_le_mul_right _ (of_decide_eq_true (by first|(with_reducible assumption)|assumption):ji4.toNat≤70368744177664)) (by omega)) (Below.refl _ _) (Nat.le_refl _) ?_;intro v134 w7 ho8 hb hg_ hnew_;clear hg_ hnew_;(first|rw [← Ny133.out] at ho8|(simp only [Int.reduceToNat] at ho8;rw [← Ny133.out] at ho8));have n0_:=Aside0.mk (Kd.R_lower ho8 (below_size (by repeat (first|(with_reducible first|exact HB.out|apply below_alloc|apply pw_below_drewN|apply below_drew1)|exact HB.out))));have n1_:=Aside0.mk (below_step (by repeat (first|(with_reducible first|exact HB.out|apply below_alloc|apply pw_below_drewN|apply below_drew1)|exact HB.out)) hb);clear HB;have HO135:=n0_;have HB:=n1_;clear n0_ n1_;clear hb ho8))
        go_loopg [8] k (fun kq v8 w'=>∃ (x7_1:List Int) (x8_1:Int),v8=.int .i64 x8_1∧Aside0 (bignum_left.l0 kq l0 (wrap64 (IntKind.u64.wrap (Int.tdiv a1 32))) (Int.tmod a1 32) x7_1 x8_1=some r)∧Aside0 (kq≤k)∧Aside0 (Kd.R (Kd.int .u32) 96 w' w.heap.size (fun _=>True) v134 x7_1)∧Aside0 (Below w.heap.size w w'))
        case atStart=>exact ⟨(y133),(0),(by first|rfl|(simp;done)|(simp [*];done)),H',⟨Nat.le_refl _⟩,⟨by (with_reducible repeat (first|apply Kd.R_alloc|apply Kd.R_drewN|apply Kd.R_drew));exact HO135.out⟩,⟨by repeat (first|(with_reducible first|exact HB.out|apply below_alloc|apply pw_below_drewN|apply below_drew1)|exact HB.out)⟩⟩
        case round =>
          clear H'
          try clear p2
          try clear c3
          try clear c3b0
          try clear c3b1
          try clear c3b2
          try clear c5
          try clear c5b0
          try clear c5b1
          try clear c6
          try clear c6b0
          try clear c6b1
          try clear p6
          try clear c7
          obtain ⟨x7_1,x8_1,rfl,HA,HK1,HO_7,HB⟩:=hrel
          cases gk with
          | zero=>exact absurd HA.out (by simp [bignum_left.l0])
          | succ k1 =>
            have H:=HA.out
            clear HA
            simp only [bignum_left.l0] at H
            by_cases c9:x8_1 < (l0.length:Int)
            · rw [if_pos c9] at H
              have c9b0:decide (x8_1 < (l0.length:Int))=true:=decide_eq_true c9
              clear c9
              by_cases c10:0≤x8_1
              · rw [if_pos c10] at H
                have c10b0:decide (0≤x8_1)=true:=decide_eq_true c10
                clear c10
                obtain ⟨ji11,hji11⟩:∃ j_:Int,(Int.tmod a1 32)=j_:=⟨_,rfl⟩
                replace H:(if 0≤(ji11) then (if 0≤(wrap64 (x8_1 + (wrap64 (IntKind.u64.wrap (Int.tdiv a1 32))))) then (if (wrap64 (x8_1 + (wrap64 (IntKind.u64.wrap (Int.tdiv a1 32))))) < (x7_1.length:Int) then ((some (x7_1.set ((wrap64 (x8_1 + (wrap64 (IntKind.u64.wrap (Int.tdiv a1 32))))):Int).toNat (Go.bits .or .u32 (rd x7_1 (wrap64 (x8_1 + (wrap64 (IntKind.u64.wrap (Int.tdiv a1 32)))))) ((shl .u64 (IntKind.u64.wrap (rd l0 x8_1)) (ji11)) % 4294967296)):List Int)).bind fun y138=>(if 0≤(wrap64 ((wrap64 (x8_1 + (wrap64 (IntKind.u64.wrap (Int.tdiv a1 32))))) + 1)) then (if (wrap64 ((wrap64 (x8_1 + (wrap64 (IntKind.u64.wrap (Int.tdiv a1 32))))) + 1)) < (x7_1.length:Int) then (bignum_left.l0 k1 l0 (wrap64 (IntKind.u64.wrap (Int.tdiv a1 32))) (ji11) (y138.set ((wrap64 ((wrap64 (x8_1 + (wrap64 (IntKind.u64.wrap (Int.tdiv a1 32))))) + 1)):Int).toNat (Go.bits .or .u32 (rd y138 (wrap64 ((wrap64 (x8_1 + (wrap64 (IntKind.u64.wrap (Int.tdiv a1 32))))) + 1))) (((shl .u64 (IntKind.u64.wrap (rd l0 x8_1)) (ji11)) / 4294967296) % 4294967296))) (wrap64 (x8_1 + 1))) else (none)) else (none))) else (none)) else (none)) else (none))=some r:=by first|(rw [hji11] at H;exact H)|(simp only [hji11] at H ⊢;exact H)
                by_cases c12:0≤(ji11)
                · rw [if_pos c12] at H
                  have c12b0:=eq_true c12
                  have c12b1:decide (0≤(ji11))=true:=decide_eq_true c12
                  clear c12
                  obtain ⟨ji13,hji13⟩:∃ j_:Int,(shl .u64 (IntKind.u64.wrap (rd l0 x8_1)) (ji11))=j_:=⟨_,rfl⟩
                  replace H:(if 0≤(wrap64 (x8_1 + (wrap64 (IntKind.u64.wrap (Int.tdiv a1 32))))) then (if (wrap64 (x8_1 + (wrap64 (IntKind.u64.wrap (Int.tdiv a1 32))))) < (x7_1.length:Int) then ((some (x7_1.set ((wrap64 (x8_1 + (wrap64 (IntKind.u64.wrap (Int.tdiv a1 32))))):Int).toNat (Go.bits .or .u32 (rd x7_1 (wrap64 (x8_1 + (wrap64 (IntKind.u64.wrap (Int.tdiv a1 32)))))) ((ji13) % 4294967296)):List Int)).bind fun y138=>(if 0≤(wrap64 ((wrap64 (x8_1 + (wrap64 (IntKind.u64.wrap (Int.tdiv a1 32))))) + 1)) then (if (wrap64 ((wrap64 (x8_1 + (wrap64 (IntKind.u64.wrap (Int.tdiv a1 32))))) + 1)) < (x7_1.length:Int) then (bignum_left.l0 k1 l0 (wrap64 (IntKind.u64.wrap (Int.tdiv a1 32))) (ji11) (y138.set ((wrap64 ((wrap64 (x8_1 + (wrap64 (IntKind.u64.wrap (Int.tdiv a1 32))))) + 1)):Int).toNat (Go.bits .or .u32 (rd y138 (wrap64 ((wrap64 (x8_1 + (wrap64 (IntKind.u64.wrap (Int.tdiv a1 32))))) + 1))) (((ji13) / 4294967296) % 4294967296))) (wrap64 (x8_1 + 1))) else (none)) else (none))) else (none)) else (none))=some r:=by first|(rw [hji13] at H;exact H)|(simp only [hji13] at H ⊢;exact H)
                  have hji13_:(IntKind.u64.wrap ((IntKind.u64.wrap (rd l0 x8_1)) * 2 ^ min (ji11).toNat 64))=ji13:=hji13
                  have hji13z:(ji11)≤64→(IntKind.u64.wrap ((IntKind.u64.wrap (rd l0 x8_1)) * 2 ^ (ji11).toNat))=ji13:=shl_small hji13
                  obtain ⟨ji14,hji14⟩:∃ j_:Int,(wrap64 (x8_1 + (wrap64 (IntKind.u64.wrap (Int.tdiv a1 32)))))=j_:=⟨_,rfl⟩
                  replace H:(if 0≤(ji14) then (if (ji14) < (x7_1.length:Int) then ((some (x7_1.set ((ji14):Int).toNat (Go.bits .or .u32 (rd x7_1 (ji14)) ((ji13) % 4294967296)):List Int)).bind fun y138=>(if 0≤(wrap64 ((ji14) + 1)) then (if (wrap64 ((ji14) + 1)) < (x7_1.length:Int) then (bignum_left.l0 k1 l0 (wrap64 (IntKind.u64.wrap (Int.tdiv a1 32))) (ji11) (y138.set ((wrap64 ((ji14) + 1)):Int).toNat (Go.bits .or .u32 (rd y138 (wrap64 ((ji14) + 1))) (((ji13) / 4294967296) % 4294967296))) (wrap64 (x8_1 + 1))) else (none)) else (none))) else (none)) else (none))=some r:=by first|(rw [hji14] at H;exact H)|(simp only [hji14] at H ⊢;exact H)
                  have hji14w:(IntKind.i64.wrap (x8_1 + (wrap64 (IntKind.u64.wrap (Int.tdiv a1 32)))))=ji14:=(i64_w _).trans hji14
                  by_cases c15:0≤(ji14)
                  · rw [if_pos c15] at H
                    have c15b0:decide (0≤(ji14))=true:=decide_eq_true c15
                    clear c15
                    by_cases c16:(ji14) < (x7_1.length:Int)
                    · rw [if_pos c16] at H
                      have c16b0:decide ((ji14) < (x7_1.length:Int))=true:=decide_eq_true c16
                      clear c16
                      obtain ⟨y138,hy138⟩:∃ y_:List Int,y_=(x7_1.set ((ji14):Int).toNat (Go.bits .or .u32 (rd x7_1 (ji14)) ((ji13) % 4294967296))):=⟨_,rfl⟩
                      replace H:(if 0≤(wrap64 ((ji14) + 1)) then (if (wrap64 ((ji14) + 1)) < (x7_1.length:Int) then (bignum_left.l0 k1 l0 (wrap64 (IntKind.u64.wrap (Int.tdiv a1 32))) (ji11) (y138.set ((wrap64 ((ji14) + 1)):Int).toNat (Go.bits .or .u32 (rd y138 (wrap64 ((ji14) + 1))) (((ji13) / 4294967296) % 4294967296))) (wrap64 (x8_1 + 1))) else (none)) else (none))=some r:=by first|(rw [hy138];with_reducible exact H)|(have H2_:=(Option.bind_some _ _).symm.trans H;rw [hy138];with_reducible exact H2_)|(have H2_:=(Option.bind_some _ _).symm.trans H;with_reducible exact H2_)|with_reducible exact H|(rw [hy138];exact H)|exact H
                      have Ny138:=Aside0.mk hy138
                      clear hy138
                      obtain ⟨ji18,hji18⟩:∃ j_:Int,(wrap64 ((ji14) + 1))=j_:=⟨_,rfl⟩
                      replace H:(if 0≤(ji18) then (if (ji18) < (x7_1.length:Int) then (bignum_left.l0 k1 l0 (wrap64 (IntKind.u64.wrap (Int.tdiv a1 32))) (ji11) (y138.set ((ji18):Int).toNat (Go.bits .or .u32 (rd y138 (ji18)) (((ji13) / 4294967296) % 4294967296))) (wrap64 (x8_1 + 1))) else (none)) else (none))=some r:=by first|(rw [hji18] at H;exact H)|(simp only [hji18] at H ⊢;exact H)
                      have hji18w:(IntKind.i64.wrap ((ji14) + 1))=ji18:=(i64_w _).trans hji18
                      by_cases c19:0≤(ji18)
                      · rw [if_pos c19] at H
                        have c19b0:decide (0≤(ji18))=true:=decide_eq_true c19
                        clear c19
                        by_cases c20:(ji18) < (x7_1.length:Int)
                        · rw [if_pos c20] at H
                          have c20b0:decide ((ji18) < (x7_1.length:Int))=true:=decide_eq_true c20
                          clear c20
                          obtain ⟨y140,hy140⟩:∃ y_:List Int,y_=(y138.set ((ji18):Int).toNat (Go.bits .or .u32 (rd y138 (ji18)) (((ji13) / 4294967296) % 4294967296))):=⟨_,rfl⟩
                          replace H:(bignum_left.l0 k1 l0 (wrap64 (IntKind.u64.wrap (Int.tdiv a1 32))) (ji11) y140 (wrap64 (x8_1 + 1)))=some r:=by first|(rw [hy140];with_reducible exact H)|(have H2_:=(Option.bind_some _ _).symm.trans H;rw [hy140];with_reducible exact H2_)|(have H2_:=(Option.bind_some _ _).symm.trans H;with_reducible exact H2_)|with_reducible exact H|(rw [hy140];exact H)|exact H
                          have Ny140:=Aside0.mk hy140
                          clear hy140
                          have H':=Aside0.mk H
                          clear H
                          have p136:0≤(x8_1:Int):=of_decide_eq_true (by first|(with_reducible assumption)|assumption)
                          have q136:x8_1 < (l0.length:Int):=of_decide_eq_true (by first|(with_reducible assumption)|assumption)
                          obtain ⟨ad136,e136,hx136_0⟩:=Kd.at_int HR0.out x8_1 p136 q136
                          cases e136
                          replace hx136_0:=(HB.out.cell (World.block_lt_of_cell? w _ hx136_0)).trans hx136_0
                          replace p136:=eq_true p136
                          replace q136:=eq_true q136
                          obtain ⟨Ao22,co22,eo22⟩:=Kd.R_slice HO_7.out
                          subst eo22
                          have p137:0≤((ji14):Int):=of_decide_eq_true (by first|(with_reducible assumption)|assumption)
                          have q137:(ji14) < (x7_1.length:Int):=of_decide_eq_true (by first|(with_reducible assumption)|assumption)
                          obtain ⟨ad137,e137,hx137_0⟩:=Kd.at_int (Kd.R_reads' HO_7.out).2.2 (ji14) p137 q137
                          cases e137
                          replace p137:=eq_true p137
                          replace q137:=eq_true q137
                          have p17:0≤((ji14):Int):=of_decide_eq_true (by first|(with_reducible assumption)|assumption)
                          have q17:((ji14):Int) < ((x7_1.length:Int):Int):=of_decide_eq_true (by first|(with_reducible assumption)|assumption)
                          obtain ⟨go17,co17,eo17,gb17,gl17,cl17,HG17⟩:=Kd.R_form HO_7.out (by omega)
                          (first|cases eo17|(injection eo17 with ea_ en_ ec_;(first|subst ea_|(injection ea_ with ea_;subst ea_));subst ec_;clear en_))
                          have GB17:=Aside0.mk gb17
                          have GG17:=Aside0.mk HG17
                          clear gb17 gl17 HG17
                          (first|simp only [add_plain] at hx137_0|skip)
                          obtain ⟨hx17_0,hf17_0⟩:=Kd.R_celln 0 HO_7.out ((ji14):Int) p17 q17
                          replace p17:=eq_true p17
                          replace q17:=eq_true q17
                          have HP23:=Kd.R_putg HO_7.out ((ji14):Int) (Go.bits .or .u32 (rd x7_1 (ji14)) ((ji13) % 4294967296))
                          go_wp2_with (first|((with_reducible refine gate_store (t:=96) (p:=46) rfl ?_);refine store_event (t:=96) (p:=46) (v:=?vo_w24) (w1:=(wr.setCell ⟨go17,((ji14):Int).toNat,none⟩ (.int .u32 (Go.bits .or .u32 (rd x7_1 (ji14)) ((ji13) % 4294967296))))) ?hg ?ho ?hn ?hr ?_;(case ho=>rfl);(case hg=>rfl);(case hn=>rfl);(case hr=>first|(go_simp;done)|(go_simp;rfl));intro w24 hw;have hg:wr.grownBy w24 (some go17):=(by rw [hw];exact HP23.2);have hp_:Kd.R (Kd.int .u32) 96 w24 w.heap.size (fun _=>True) (.slice (some ⟨go17,0,none⟩) x7_1.length co22) y138:=(by rw [hw,Ny138.out];exact HP23.1);clear HP23;have n0_:=Aside0.mk (hp_);have n1_:=Aside0.mk ((by rw [hw];exact below_set (HB.out) GB17.out:Below w.heap.size w w24));clear HO_7;clear HB;have HO_7:=n0_;have HB:=n1_;clear n0_ n1_;clear hg hw hp_;have p139:0≤((ji18):Int):=of_decide_eq_true (by first|(with_reducible assumption)|assumption);have q139:(ji18) < (y138.length:Int):=(by have h_:((ji18):Int) < ((x7_1.length:Int):Int):=of_decide_eq_true (by first|(with_reducible assumption)|assumption);first|(have e_:=(Kd.R_reads' HO_7.out).1;omega)|simpa only [Ny138.out,List.length_set] using h_);have ql139:(((ji18):Int) < ((x7_1.length:Int):Int))=True:=eq_true (of_decide_eq_true (by first|(with_reducible assumption)|assumption));obtain ⟨ad139,e139,hx139_0⟩:=Kd.at_int (Kd.R_reads' HO_7.out).2.2 (ji18) p139 q139;obtain rfl:(⟨go17,0,none⟩:Addr)=ad139:=(by injection e139);(first|simp only [add_plain] at hx139_0|simp only [add_at] at hx139_0|simp only [Addr.add,Nat.zero_add] at hx139_0|skip);replace p139:=eq_true p139;replace q139:=eq_true q139;have p21:0≤((ji18):Int):=of_decide_eq_true (by first|(with_reducible assumption)|assumption);have q21:((ji18):Int) < ((x7_1.length:Int):Int):=of_decide_eq_true (by first|(with_reducible assumption)|assumption);obtain ⟨hx21_0,hf21_0⟩:=Kd.R_celln 0 HO_7.out ((ji18):Int) p21 q21;replace p21:=eq_true p21;replace q21:=eq_true q21;obtain ⟨hy25_,hz25_⟩:=Kd.R_celln 0 HO_7.out ((ji18):Int) (of_decide_eq_true (by first|(with_reducible assumption)|assumption)) (of_decide_eq_true (by first|(with_reducible assumption)|assumption));have HP25:=Kd.R_putg HO_7.out ((ji18):Int) (Go.bits .or .u32 (rd y138 (ji18)) (((ji13) / 4294967296) % 4294967296)))|((with_reducible refine gate_store (t:=96) (p:=58) rfl ?_);refine store_event (t:=96) (p:=58) (v:=?vo_w26) (w1:=(w24.setCell ⟨go17,((ji18):Int).toNat,none⟩ (.int .u32 (Go.bits .or .u32 (rd y138 (ji18)) (((ji13) / 4294967296) % 4294967296))))) ?hg ?ho ?hn ?hr ?_;(case ho=>rfl);(case hg=>rfl);(case hn=>rfl);(case hr=>first|(go_simp;done)|(go_simp;rfl));intro w26 hw;have hg:w24.grownBy w26 (some go17):=(by rw [hw];exact HP25.2);have hp_:Kd.R (Kd.int .u32) 96 w26 w.heap.size (fun _=>True) (.slice (some ⟨go17,0,none⟩) x7_1.length co22) y140:=(by rw [hw,Ny140.out];exact HP25.1);clear HP25;have n0_:=Aside0.mk (hp_);have n1_:=Aside0.mk ((by rw [hw];exact below_set (HB.out) GB17.out:Below w.heap.size w w26));clear HO_7;clear HB;have HO_7:=n0_;have HB:=n1_;clear n0_ n1_;clear hg hw hp_))
                          (try subst hji11)
                          go_roundg k1
                          case measure=>have:=HK1.out;omega
                          case rel=>exact ⟨(y140),(wrap64 (x8_1 + 1)),(by first|rfl|(simp;done)|(simp [*];done)),H',⟨by have:=HK1.out;omega⟩,⟨by (with_reducible repeat (first|apply Kd.R_alloc|apply Kd.R_drewN|apply Kd.R_drew));exact HO_7.out⟩,⟨by repeat (first|(with_reducible first|exact HB.out|apply below_alloc|apply pw_below_drewN|apply below_drew1)|exact HB.out)⟩⟩
                        · rw [if_neg c20] at H
                          exact absurd H (by simp)
                      · rw [if_neg c19] at H
                        exact absurd H (by simp)
                    · rw [if_neg c16] at H
                      exact absurd H (by simp)
                  · rw [if_neg c15] at H
                    exact absurd H (by simp)
                · rw [if_neg c12] at H
                  exact absurd H (by simp)
              · rw [if_neg c10] at H
                exact absurd H (by simp)
            · rw [if_neg c9] at H
              have c9b0:decide (x8_1 < (l0.length:Int))=false:=decide_eq_false c9
              clear c9
              replace H:=Option.bind_eq_some_iff.mp H
              obtain ⟨t141,A270,H⟩:=H
              replace H:(some t141)=some r:=H
              have A27:=Aside0.mk A270
              clear A270
              obtain rfl:=Option.some.inj H
              obtain ⟨Ao28,co28,eo28⟩:=Kd.R_slice HO_7.out
              subst eo28
              go_wp2_with (first|((with_reducible refine gate_callee (f:=91) rfl ?_);refine goesL_ (some 60) rfl rfl Tryd.func91 (by kernel_rfl) rfl #[.slice Ao28 x7_1.length co28] rfl (by (try simp only [List.map_toArray,List.map_cons,List.map_nil]);first|done|rfl|(simp only [List.length_drop,List.length_take];rfl)) ?_;(with_reducible refine (bignum_trim.calls k1 (fun k_=>some k_=(.slice Ao28 x7_1.length co28:Value).ownBlock) (.slice Ao28 x7_1.length co28) x7_1 t141 w _ ?side1 ?side2 A27.out).mono ?_);(case side1=>repeat (first|(with_reducible first|exact HB.out|apply below_alloc|apply pw_below_drewN|apply below_drew1)|exact HB.out));(case side2=>exact Kd.R_tight rfl HO_7.out);rintro e w29 ⟨v142,rfl,ho0,hb,hkp⟩;refine ⟨_,rfl,?_⟩;have n0_:=Aside0.mk (Kd.R_mono (ok':=fun k_=>True) ho0 (fun k_ hk_=>trivial));have n1_:=Aside0.mk (hb);clear HB;clear HO_7;have HO143:=n0_;have HB:=n1_;clear n0_ n1_;(try clear hb);(try clear hkp);(try clear ho0)))
              go_ret
              exact ⟨_,by first|rfl|(simp [errW_none,errW_some] <;> rfl)|(simp only [← hji4];first|rfl|(simp [errW_none,errW_some] <;> rfl))|(simp [*,errW_none,errW_some] <;> rfl),by (with_reducible repeat (first|apply Kd.R_alloc|apply Kd.R_drewN|apply Kd.R_drew));exact HO143.out,by repeat (first|(with_reducible first|exact HB.out|apply below_alloc|apply pw_below_drewN|apply below_drew1)|exact HB.out)⟩
      · rw [if_neg c6] at H
        exact absurd H (by simp)
    · rw [if_neg c5] at H
      exact absurd H (by simp)
def bignum_words.f (k:Nat) (a0:Int):Option (List Int):=(bignum_trim.f k (([(a0) % 4294967296,(a0 / 4294967296) % 4294967296]:List Int))).bind fun t147=>(some t147)
theorem bignum_words.mono:∀ a0 k,LeO (bignum_words.f k a0) (bignum_words.f (k + 1) a0):=by
  intro a0 k
  unfold bignum_words.f
  repeat' first
      | (with_reducible exact bignum_trim.mono _ _)
      | (with_reducible exact LeO.refl _)
      | (with_reducible exact LeO.none _)
      | (with_reducible refine LeO.ite ?_ ?_)
      | (with_reducible refine LeO.bind ?_ (fun _=>?_))
      | exact bignum_trim.mono _ _
      | exact LeO.none _
      | refine LeO.ite ?_ ?_
      | refine LeO.bind ?_ (fun _=>?_)
set_option maxHeartbeats 8000000 in
set_option maxRecDepth 100000 in
theorem bignum_words.calls (k:Nat) (a0:Int) (r:List Int) (w:World) (h:bignum_words.f k a0=some r) :
    Calls Tryd.prog 87 #[.int .u64 a0] w fun e w'=>∃ v0_:Value,e=.returned (v0_)∧Kd.R (Kd.int .u32) 96 w' w.heap.size (fun _=>True) v0_ r∧Below w.heap.size w w':=by
  have HB:=Aside0.mk (Below.refl w.heap.size w)
  have H:((bignum_trim.f k (([(a0) % 4294967296,(a0 / 4294967296) % 4294967296]:List Int))).bind fun t147=>(some t147))=some r:=h
  clear h
  obtain ⟨y144,hy144⟩:∃ y_:List Int,y_=(([(a0) % 4294967296,(a0 / 4294967296) % 4294967296]:List Int)):=⟨_,rfl⟩
  replace H:((bignum_trim.f k y144).bind fun t147=>(some t147))=some r:=by first|(rw [hy144];with_reducible exact H)|(have H2_:=(Option.bind_some _ _).symm.trans H;rw [hy144];with_reducible exact H2_)|(have H2_:=(Option.bind_some _ _).symm.trans H;with_reducible exact H2_)|with_reducible exact H|(rw [hy144];exact H)|exact H
  have Ny144:=Aside0.mk hy144
  clear hy144
  replace H:=Option.bind_eq_some_iff.mp H
  obtain ⟨t147,A20,H⟩:=H
  replace H:(some t147)=some r:=H
  have A2:=Aside0.mk A20
  clear A20
  obtain rfl:=Option.some.inj H
  go_enter Tryd.func87,Tryd.ntmps87
  go_wp2_with (first|((with_reducible refine gate_dst (N:=8) rfl ?_);refine Kd.R_lit (Kd.int .u32) _ 96 ?hg (N:=8) ?hd (xs:=([(a0) % 4294967296,(a0 / 4294967296) % 4294967296]:List Int)) (inner:=[.int .u32 ((a0) % 4294967296),.int .u32 ((a0 / 4294967296) % 4294967296)]) (ok:=fun _=>True) (okp:=fun _=>True) ?hr ?hp (fun _ hk=>hk) trivial (Below.refl _ _) (Nat.le_refl _) (by simp) ?_;(case hd=>rfl);(case hg=>rfl);(case hr=>first|(go_simp;done)|(go_simp;rfl));(case hp=>exact (Reps.one (show Kd.M (Kd.int .u32) _ _ _ ((a0) % 4294967296) [.int .u32 ((a0) % 4294967296)] from rfl) (Reps.one (show Kd.M (Kd.int .u32) _ _ _ ((a0 / 4294967296) % 4294967296) [.int .u32 ((a0 / 4294967296) % 4294967296)] from rfl) (Reps.none _ _))));intro v145 w3 ho4 hb hg_ hnew_;clear hg_ hnew_;(first|rw [← Ny144.out] at ho4|(simp only [Int.reduceToNat] at ho4;rw [← Ny144.out] at ho4));have n0_:=Aside0.mk (Kd.R_lower ho4 (below_size (by repeat (first|(with_reducible first|exact HB.out|apply below_alloc|apply pw_below_drewN|apply below_drew1)|exact HB.out))));have n1_:=Aside0.mk (below_step (by repeat (first|(with_reducible first|exact HB.out|apply below_alloc|apply pw_below_drewN|apply below_drew1)|exact HB.out)) hb);clear HB;have HO146:=n0_;have HB:=n1_;clear n0_ n1_;clear hb ho4;obtain ⟨Ao5,co5,eo5⟩:=Kd.R_slice HO146.out;subst eo5)|((with_reducible refine gate_callee (f:=91) rfl ?_);refine goesL_ (some 9) rfl rfl Tryd.func91 (by kernel_rfl) rfl #[.slice Ao5 y144.length co5] rfl (by (try simp only [List.map_toArray,List.map_cons,List.map_nil]);first|done|rfl|(simp only [List.length_drop,List.length_take];rfl)) ?_;(with_reducible refine (bignum_trim.calls k (fun k_=>some k_=(.slice Ao5 y144.length co5:Value).ownBlock) (.slice Ao5 y144.length co5) y144 t147 w _ ?side1 ?side2 A2.out).mono ?_);(case side1=>repeat (first|(with_reducible first|exact HB.out|apply below_alloc|apply pw_below_drewN|apply below_drew1)|exact HB.out));(case side2=>exact Kd.R_tight rfl HO146.out);rintro e w6 ⟨v148,rfl,ho0,hb,hkp⟩;refine ⟨_,rfl,?_⟩;have n0_:=Aside0.mk (Kd.R_mono (ok':=fun k_=>True) ho0 (fun k_ hk_=>trivial));have n1_:=Aside0.mk (hb);clear HB;clear HO146;have HO149:=n0_;have HB:=n1_;clear n0_ n1_;(try clear hb);(try clear hkp);(try clear ho0)))
  go_ret
  exact ⟨_,by first|rfl|(simp [errW_none,errW_some] <;> rfl)|(simp [*,errW_none,errW_some] <;> rfl),by (with_reducible repeat (first|apply Kd.R_alloc|apply Kd.R_drewN|apply Kd.R_drew));exact HO149.out,by repeat (first|(with_reducible first|exact HB.out|apply below_alloc|apply pw_below_drewN|apply below_drew1)|exact HB.out)⟩
def bignum_add.l0:Nat→List Int→List Int→List Int→Int→Int→Option (List Int)
  | 0,_,_,_,_,_=>none
  | k + 1,x0,x1,x5,x6,x7=>if x7 < (x0.length:Int) then (if 0≤x7 then (if x7 < (x1.length:Int) then (if x7 < (x5.length:Int) then (bignum_add.l0 k x0 x1 (x5.set (x7:Int).toNat ((IntKind.u64.wrap ((IntKind.u64.wrap (x6 + (IntKind.u64.wrap (rd x0 x7)))) + (IntKind.u64.wrap (rd x1 x7)))) % 4294967296)) ((IntKind.u64.wrap ((IntKind.u64.wrap (x6 + (IntKind.u64.wrap (rd x0 x7)))) + (IntKind.u64.wrap (rd x1 x7)))) / 4294967296) (wrap64 (x7 + 1))) else (none)) else (if x7 < (x5.length:Int) then (bignum_add.l0 k x0 x1 (x5.set (x7:Int).toNat ((IntKind.u64.wrap (x6 + (IntKind.u64.wrap (rd x0 x7)))) % 4294967296)) ((IntKind.u64.wrap (x6 + (IntKind.u64.wrap (rd x0 x7)))) / 4294967296) (wrap64 (x7 + 1))) else (none))) else (none)) else (if 0≤(x0.length:Int) then (if (x0.length:Int) < (x5.length:Int) then ((bignum_trim.f k (x5.set ((x0.length:Int):Int).toNat ((x6) % 4294967296))).bind fun t158=>(some t158)) else (none)) else (none))
def bignum_add.f (k:Nat) (l0:List Int) (l1:List Int):Option (List Int):=if 0≤(wrap64 ((l0.length:Int) + 1)) then (if (wrap64 ((l0.length:Int) + 1):Int).toNat≤70368744177664 then (bignum_add.l0 k l0 l1 (List.replicate (wrap64 ((l0.length:Int) + 1):Int).toNat 0) 0 0) else (none)) else (none)
theorem bignum_add.mono_l:∀ k,(∀ y0 y1 y2 y3 y4,LeO (bignum_add.l0 k y0 y1 y2 y3 y4) (bignum_add.l0 (k + 1) y0 y1 y2 y3 y4))
  | 0=>fun _ _ _ _ _ r h=>by simp [bignum_add.l0] at h
  | k + 1=>by
    have ih0:=bignum_add.mono_l k
    · intro y0 y1 y2 y3 y4
      unfold bignum_add.l0
      repeat' first
      | (with_reducible exact ih0 _ _ _ _ _)
      | (with_reducible exact bignum_trim.mono _ _)
      | (with_reducible exact LeO.refl _)
      | (with_reducible exact LeO.none _)
      | (with_reducible refine LeO.ite ?_ ?_)
      | (with_reducible refine LeO.bind ?_ (fun _=>?_))
      | exact ih0 _ _ _ _ _
      | exact bignum_trim.mono _ _
      | exact LeO.none _
      | refine LeO.ite ?_ ?_
      | refine LeO.bind ?_ (fun _=>?_)
theorem bignum_add.mono:∀ a0 a1 k,LeO (bignum_add.f k a0 a1) (bignum_add.f (k + 1) a0 a1):=by
  intro a0 a1 k
  have ih0:=bignum_add.mono_l k
  unfold bignum_add.f
  repeat' first
      | (with_reducible exact ih0 _ _ _ _ _)
      | (with_reducible exact bignum_trim.mono _ _)
      | (with_reducible exact LeO.refl _)
      | (with_reducible exact LeO.none _)
      | (with_reducible refine LeO.ite ?_ ?_)
      | (with_reducible refine LeO.bind ?_ (fun _=>?_))
      | exact ih0 _ _ _ _ _
      | exact bignum_trim.mono _ _
      | exact LeO.none _
      | refine LeO.ite ?_ ?_
      | refine LeO.bind ?_ (fun _=>?_)
set_option maxHeartbeats 8000000 in
set_option maxRecDepth 100000 in
theorem bignum_add.calls (k:Nat) (A0:Option Addr) (c0:Nat) (l0:List Int) (A1:Option Addr) (c1:Nat) (l1:List Int) (r:List Int) (w:World) (hr0:Kd.C (Kd.int .u32) w A0 l0.length l0) (hc0:l0.length≤c0) (hr1:Kd.C (Kd.int .u32) w A1 l1.length l1) (hc1:l1.length≤c1) (hsw:decide (l0.length < l1.length)=false) (h:bignum_add.f k l0 l1=some r) :
    Calls Tryd.prog 73 #[.slice A0 l0.length c0,.slice A1 l1.length c1] w fun e w'=>∃ v0_:Value,e=.returned (v0_)∧Kd.R (Kd.int .u32) 96 w' w.heap.size (fun _=>True) v0_ r∧Below w.heap.size w w':=by
  have HR0:=Aside0.mk hr0
  have HC0:=Aside0.mk hc0
  clear hr0 hc0
  have HR1:=Aside0.mk hr1
  have HC1:=Aside0.mk hc1
  clear hr1 hc1
  have HB:=Aside0.mk (Below.refl w.heap.size w)
  have H:(if 0≤(wrap64 ((l0.length:Int) + 1)) then (if (wrap64 ((l0.length:Int) + 1):Int).toNat≤70368744177664 then (bignum_add.l0 k l0 l1 (List.replicate (wrap64 ((l0.length:Int) + 1):Int).toNat 0) 0 0) else (none)) else (none))=some r:=h
  clear h
  obtain ⟨ji3,hji3⟩:∃ j_:Int,(wrap64 ((l0.length:Int) + 1))=j_:=⟨_,rfl⟩
  replace H:(if 0≤(ji3) then (if (ji3:Int).toNat≤70368744177664 then (bignum_add.l0 k l0 l1 (List.replicate (ji3:Int).toNat 0) 0 0) else (none)) else (none))=some r:=by first|(rw [hji3] at H;exact H)|(simp only [hji3] at H ⊢;exact H)
  have hji3w:(IntKind.i64.wrap ((l0.length:Int) + 1))=ji3:=(i64_w _).trans hji3
  by_cases c4:0≤(ji3)
  · rw [if_pos c4] at H
    have c4b0:=eq_true c4
    have c4b1:decide (0≤(ji3))=true:=decide_eq_true c4
    clear c4
    by_cases c5:(ji3:Int).toNat≤70368744177664
    · rw [if_pos c5] at H
      have c5b0:=eq_true c5
      have c5b1:decide ((ji3:Int).toNat≤70368744177664)=true:=decide_eq_true c5
      clear c5
      obtain ⟨y150,hy150⟩:∃ y_:List Int,y_=(List.replicate (ji3:Int).toNat 0):=⟨_,rfl⟩
      replace H:(bignum_add.l0 k l0 l1 y150 0 0)=some r:=by first|(rw [hy150];with_reducible exact H)|(have H2_:=(Option.bind_some _ _).symm.trans H;rw [hy150];with_reducible exact H2_)|(have H2_:=(Option.bind_some _ _).symm.trans H;with_reducible exact H2_)|with_reducible exact H|(rw [hy150];exact H)|exact H
      have Ny150:=Aside0.mk hy150
      clear hy150
      have H':=Aside0.mk H
      clear H
      go_enter Tryd.func73,Tryd.ntmps73
      go_wp2_with (first|((with_reducible refine gate_dst (N:=18) rfl ?_);refine Kd.R_make (Kd.int .u32) _ 96 rfl (N:=18) rfl 74 _ _ rfl ji3 rfl rfl Tryd.underlying74 (.int .u32 0) 4 info96 rfl (by decide) (by omega) 0 (ok:=fun _=>True) (okp:=fun _=>True) rfl (fun _ hk=>hk) trivial (of_decide_eq_true (by first|(with_reducible assumption)|assumption)) (Nat.le_trans (Nat.mul_le_mul_right _ (of_decide_eq_true (by first|(with_reducible assumption)|assumption):ji3.toNat≤70368744177664)) (by omega)) (Below.refl _ _) (Nat.le_refl _) ?_;intro v151 w6 ho7 hb hg_ hnew_;clear hg_ hnew_;(first|rw [← Ny150.out] at ho7|(simp only [Int.reduceToNat] at ho7;rw [← Ny150.out] at ho7));have n0_:=Aside0.mk (Kd.R_lower ho7 (below_size (by repeat (first|(with_reducible first|exact HB.out|apply below_alloc|apply pw_below_drewN|apply below_drew1)|exact HB.out))));have n1_:=Aside0.mk (below_step (by repeat (first|(with_reducible first|exact HB.out|apply below_alloc|apply pw_below_drewN|apply below_drew1)|exact HB.out)) hb);clear HB;have HO152:=n0_;have HB:=n1_;clear n0_ n1_;clear hb ho7))
      go_loopg [6,7] k (fun kq v6 v7 w'=>∃ (x5_1:List Int) (x6_1:Int) (x7_1:Int),v6=.int .u64 x6_1∧v7=.int .i64 x7_1∧Aside0 (bignum_add.l0 kq l0 l1 x5_1 x6_1 x7_1=some r)∧Aside0 (kq≤k)∧Aside0 (Kd.R (Kd.int .u32) 96 w' w.heap.size (fun _=>True) v151 x5_1)∧Aside0 (Below w.heap.size w w'))
      case atStart=>exact ⟨(y150),(0),(0),(by first|rfl|(simp;done)|(simp [*];done)),(by first|rfl|(simp;done)|(simp [*];done)),H',⟨Nat.le_refl _⟩,⟨by (with_reducible repeat (first|apply Kd.R_alloc|apply Kd.R_drewN|apply Kd.R_drew));exact HO152.out⟩,⟨by repeat (first|(with_reducible first|exact HB.out|apply below_alloc|apply pw_below_drewN|apply below_drew1)|exact HB.out)⟩⟩
      case round =>
        clear H'
        try clear c1
        try clear p2
        try clear c4
        try clear c4b0
        try clear c4b1
        try clear c5
        try clear c5b0
        try clear c5b1
        try clear p6
        try clear c7
        obtain ⟨x5_1,x6_1,x7_1,rfl,rfl,HA,HK1,HO_5,HB⟩:=hrel
        cases gk with
        | zero=>exact absurd HA.out (by simp [bignum_add.l0])
        | succ k1 =>
          have H:=HA.out
          clear HA
          simp only [bignum_add.l0] at H
          by_cases c8:x7_1 < (l0.length:Int)
          · rw [if_pos c8] at H
            have c8b0:decide (x7_1 < (l0.length:Int))=true:=decide_eq_true c8
            clear c8
            by_cases c9:0≤x7_1
            · rw [if_pos c9] at H
              have c9b0:decide (0≤x7_1)=true:=decide_eq_true c9
              clear c9
              by_cases c10:x7_1 < (l1.length:Int)
              · rw [if_pos c10] at H
                have c10b0:decide (x7_1 < (l1.length:Int))=true:=decide_eq_true c10
                clear c10
                by_cases c11:x7_1 < (x5_1.length:Int)
                · rw [if_pos c11] at H
                  have c11b0:decide (x7_1 < (x5_1.length:Int))=true:=decide_eq_true c11
                  clear c11
                  obtain ⟨y155,hy155⟩:∃ y_:List Int,y_=(x5_1.set (x7_1:Int).toNat ((IntKind.u64.wrap ((IntKind.u64.wrap (x6_1 + (IntKind.u64.wrap (rd l0 x7_1)))) + (IntKind.u64.wrap (rd l1 x7_1)))) % 4294967296)):=⟨_,rfl⟩
                  replace H:(bignum_add.l0 k1 l0 l1 y155 ((IntKind.u64.wrap ((IntKind.u64.wrap (x6_1 + (IntKind.u64.wrap (rd l0 x7_1)))) + (IntKind.u64.wrap (rd l1 x7_1)))) / 4294967296) (wrap64 (x7_1 + 1)))=some r:=by first|(rw [hy155];with_reducible exact H)|(have H2_:=(Option.bind_some _ _).symm.trans H;rw [hy155];with_reducible exact H2_)|(have H2_:=(Option.bind_some _ _).symm.trans H;with_reducible exact H2_)|with_reducible exact H|(rw [hy155];exact H)|exact H
                  have Ny155:=Aside0.mk hy155
                  clear hy155
                  have H':=Aside0.mk H
                  clear H
                  have p153:0≤(x7_1:Int):=of_decide_eq_true (by first|(with_reducible assumption)|assumption)
                  have q153:x7_1 < (l0.length:Int):=of_decide_eq_true (by first|(with_reducible assumption)|assumption)
                  obtain ⟨ad153,e153,hx153_0⟩:=Kd.at_int HR0.out x7_1 p153 q153
                  cases e153
                  replace hx153_0:=(HB.out.cell (World.block_lt_of_cell? w _ hx153_0)).trans hx153_0
                  replace p153:=eq_true p153
                  replace q153:=eq_true q153
                  have p154:0≤(x7_1:Int):=of_decide_eq_true (by first|(with_reducible assumption)|assumption)
                  have q154:x7_1 < (l1.length:Int):=of_decide_eq_true (by first|(with_reducible assumption)|assumption)
                  obtain ⟨ad154,e154,hx154_0⟩:=Kd.at_int HR1.out x7_1 p154 q154
                  cases e154
                  replace hx154_0:=(HB.out.cell (World.block_lt_of_cell? w _ hx154_0)).trans hx154_0
                  replace p154:=eq_true p154
                  replace q154:=eq_true q154
                  have p12:0≤(x7_1:Int):=of_decide_eq_true (by first|(with_reducible assumption)|assumption)
                  have q12:(x7_1:Int) < ((x5_1.length:Int):Int):=of_decide_eq_true (by first|(with_reducible assumption)|assumption)
                  obtain ⟨go12,co12,eo12,gb12,gl12,cl12,HG12⟩:=Kd.R_form HO_5.out (by omega)
                  (first|cases eo12|(injection eo12 with ea_ en_ ec_;(first|subst ea_|(injection ea_ with ea_;subst ea_));subst ec_;clear en_))
                  have GB12:=Aside0.mk gb12
                  have GG12:=Aside0.mk HG12
                  clear gb12 gl12 HG12
                  obtain ⟨hx12_0,hf12_0⟩:=Kd.R_celln 0 HO_5.out (x7_1:Int) p12 q12
                  replace p12:=eq_true p12
                  replace q12:=eq_true q12
                  have HP13:=Kd.R_putg HO_5.out (x7_1:Int) ((IntKind.u64.wrap ((IntKind.u64.wrap (x6_1 + (IntKind.u64.wrap (rd l0 x7_1)))) + (IntKind.u64.wrap (rd l1 x7_1)))) % 4294967296)
                  go_wp2_with (first|((with_reducible refine gate_store (t:=96) (p:=47) rfl ?_);refine store_event (t:=96) (p:=47) (v:=?vo_w14) (w1:=(wr.setCell ⟨go12,(x7_1:Int).toNat,none⟩ (.int .u32 ((IntKind.u64.wrap ((IntKind.u64.wrap (x6_1 + (IntKind.u64.wrap (rd l0 x7_1)))) + (IntKind.u64.wrap (rd l1 x7_1)))) % 4294967296)))) ?hg ?ho ?hn ?hr ?_;(case ho=>rfl);(case hg=>rfl);(case hn=>rfl);(case hr=>first|(go_simp;done)|(go_simp;rfl));intro w14 hw;have hg:wr.grownBy w14 (some go12):=(by rw [hw];exact HP13.2);have hp_:Kd.R (Kd.int .u32) 96 w14 w.heap.size (fun _=>True) (.slice (some ⟨go12,0,none⟩) x5_1.length co12) y155:=(by rw [hw,Ny155.out];exact HP13.1);clear HP13;have n0_:=Aside0.mk (hp_);have n1_:=Aside0.mk ((by rw [hw];exact below_set (HB.out) GB12.out:Below w.heap.size w w14));clear HO_5;clear HB;have HO_5:=n0_;have HB:=n1_;clear n0_ n1_;clear hg hw hp_))
                  go_roundg k1
                  case measure=>have:=HK1.out;omega
                  case rel=>exact ⟨(y155),((IntKind.u64.wrap ((IntKind.u64.wrap (x6_1 + (IntKind.u64.wrap (rd l0 x7_1)))) + (IntKind.u64.wrap (rd l1 x7_1)))) / 4294967296),(wrap64 (x7_1 + 1)),(by first|rfl|(simp;done)|(simp [*];done)),(by first|rfl|(simp;done)|(simp [*];done)),H',⟨by have:=HK1.out;omega⟩,⟨by (with_reducible repeat (first|apply Kd.R_alloc|apply Kd.R_drewN|apply Kd.R_drew));exact HO_5.out⟩,⟨by repeat (first|(with_reducible first|exact HB.out|apply below_alloc|apply pw_below_drewN|apply below_drew1)|exact HB.out)⟩⟩
                · rw [if_neg c11] at H
                  exact absurd H (by simp)
              · rw [if_neg c10] at H
                have c10b0:decide (x7_1 < (l1.length:Int))=false:=decide_eq_false c10
                clear c10
                by_cases c15:x7_1 < (x5_1.length:Int)
                · rw [if_pos c15] at H
                  have c15b0:decide (x7_1 < (x5_1.length:Int))=true:=decide_eq_true c15
                  clear c15
                  obtain ⟨y156,hy156⟩:∃ y_:List Int,y_=(x5_1.set (x7_1:Int).toNat ((IntKind.u64.wrap (x6_1 + (IntKind.u64.wrap (rd l0 x7_1)))) % 4294967296)):=⟨_,rfl⟩
                  replace H:(bignum_add.l0 k1 l0 l1 y156 ((IntKind.u64.wrap (x6_1 + (IntKind.u64.wrap (rd l0 x7_1)))) / 4294967296) (wrap64 (x7_1 + 1)))=some r:=by first|(rw [hy156];with_reducible exact H)|(have H2_:=(Option.bind_some _ _).symm.trans H;rw [hy156];with_reducible exact H2_)|(have H2_:=(Option.bind_some _ _).symm.trans H;with_reducible exact H2_)|with_reducible exact H|(rw [hy156];exact H)|exact H
                  have Ny156:=Aside0.mk hy156
                  clear hy156
                  have H':=Aside0.mk H
                  clear H
                  have p153:0≤(x7_1:Int):=of_decide_eq_true (by first|(with_reducible assumption)|assumption)
                  have q153:x7_1 < (l0.length:Int):=of_decide_eq_true (by first|(with_reducible assumption)|assumption)
                  obtain ⟨ad153,e153,hx153_0⟩:=Kd.at_int HR0.out x7_1 p153 q153
                  cases e153
                  replace hx153_0:=(HB.out.cell (World.block_lt_of_cell? w _ hx153_0)).trans hx153_0
                  replace p153:=eq_true p153
                  replace q153:=eq_true q153
                  have p16:0≤(x7_1:Int):=of_decide_eq_true (by first|(with_reducible assumption)|assumption)
                  have q16:(x7_1:Int) < ((x5_1.length:Int):Int):=of_decide_eq_true (by first|(with_reducible assumption)|assumption)
                  obtain ⟨go16,co16,eo16,gb16,gl16,cl16,HG16⟩:=Kd.R_form HO_5.out (by omega)
                  (first|cases eo16|(injection eo16 with ea_ en_ ec_;(first|subst ea_|(injection ea_ with ea_;subst ea_));subst ec_;clear en_))
                  have GB16:=Aside0.mk gb16
                  have GG16:=Aside0.mk HG16
                  clear gb16 gl16 HG16
                  obtain ⟨hx16_0,hf16_0⟩:=Kd.R_celln 0 HO_5.out (x7_1:Int) p16 q16
                  replace p16:=eq_true p16
                  replace q16:=eq_true q16
                  have HP17:=Kd.R_putg HO_5.out (x7_1:Int) ((IntKind.u64.wrap (x6_1 + (IntKind.u64.wrap (rd l0 x7_1)))) % 4294967296)
                  go_wp2_with (first|((with_reducible refine gate_store (t:=96) (p:=47) rfl ?_);refine store_event (t:=96) (p:=47) (v:=?vo_w18) (w1:=(wr.setCell ⟨go16,(x7_1:Int).toNat,none⟩ (.int .u32 ((IntKind.u64.wrap (x6_1 + (IntKind.u64.wrap (rd l0 x7_1)))) % 4294967296)))) ?hg ?ho ?hn ?hr ?_;(case ho=>rfl);(case hg=>rfl);(case hn=>rfl);(case hr=>first|(go_simp;done)|(go_simp;rfl));intro w18 hw;have hg:wr.grownBy w18 (some go16):=(by rw [hw];exact HP17.2);have hp_:Kd.R (Kd.int .u32) 96 w18 w.heap.size (fun _=>True) (.slice (some ⟨go16,0,none⟩) x5_1.length co16) y156:=(by rw [hw,Ny156.out];exact HP17.1);clear HP17;have n0_:=Aside0.mk (hp_);have n1_:=Aside0.mk ((by rw [hw];exact below_set (HB.out) GB16.out:Below w.heap.size w w18));clear HO_5;clear HB;have HO_5:=n0_;have HB:=n1_;clear n0_ n1_;clear hg hw hp_))
                  go_roundg k1
                  case measure=>have:=HK1.out;omega
                  case rel=>exact ⟨(y156),((IntKind.u64.wrap (x6_1 + (IntKind.u64.wrap (rd l0 x7_1)))) / 4294967296),(wrap64 (x7_1 + 1)),(by first|rfl|(simp;done)|(simp [*];done)),(by first|rfl|(simp;done)|(simp [*];done)),H',⟨by have:=HK1.out;omega⟩,⟨by (with_reducible repeat (first|apply Kd.R_alloc|apply Kd.R_drewN|apply Kd.R_drew));exact HO_5.out⟩,⟨by repeat (first|(with_reducible first|exact HB.out|apply below_alloc|apply pw_below_drewN|apply below_drew1)|exact HB.out)⟩⟩
                · rw [if_neg c15] at H
                  exact absurd H (by simp)
            · rw [if_neg c9] at H
              exact absurd H (by simp)
          · rw [if_neg c8] at H
            have c8b0:decide (x7_1 < (l0.length:Int))=false:=decide_eq_false c8
            clear c8
            by_cases c19:0≤(l0.length:Int)
            · rw [if_pos c19] at H
              have c19b0:decide (0≤(l0.length:Int))=true:=decide_eq_true c19
              have c19b1:decide (0≤l0.length)=true:=decide_eq_true (by omega)
              clear c19
              by_cases c20:(l0.length:Int) < (x5_1.length:Int)
              · rw [if_pos c20] at H
                have c20b0:decide ((l0.length:Int) < (x5_1.length:Int))=true:=decide_eq_true c20
                have c20b1:decide (l0.length < x5_1.length)=true:=decide_eq_true (Int.ofNat_lt.mp c20)
                clear c20
                obtain ⟨y157,hy157⟩:∃ y_:List Int,y_=(x5_1.set ((l0.length:Int):Int).toNat ((x6_1) % 4294967296)):=⟨_,rfl⟩
                replace H:((bignum_trim.f k1 y157).bind fun t158=>(some t158))=some r:=by first|(rw [hy157];with_reducible exact H)|(have H2_:=(Option.bind_some _ _).symm.trans H;rw [hy157];with_reducible exact H2_)|(have H2_:=(Option.bind_some _ _).symm.trans H;with_reducible exact H2_)|with_reducible exact H|(rw [hy157];exact H)|exact H
                have Ny157:=Aside0.mk hy157
                clear hy157
                replace H:=Option.bind_eq_some_iff.mp H
                obtain ⟨t158,A220,H⟩:=H
                replace H:(some t158)=some r:=H
                have A22:=Aside0.mk A220
                clear A220
                obtain rfl:=Option.some.inj H
                have p21:0≤((l0.length:Int):Int):=of_decide_eq_true (by first|(with_reducible assumption)|assumption)
                have q21:((l0.length:Int):Int) < ((x5_1.length:Int):Int):=of_decide_eq_true (by first|(with_reducible assumption)|assumption)
                obtain ⟨go21,co21,eo21,gb21,gl21,cl21,HG21⟩:=Kd.R_form HO_5.out (by omega)
                (first|cases eo21|(injection eo21 with ea_ en_ ec_;(first|subst ea_|(injection ea_ with ea_;subst ea_));subst ec_;clear en_))
                have GB21:=Aside0.mk gb21
                have GG21:=Aside0.mk HG21
                clear gb21 gl21 HG21
                obtain ⟨hx21_0,hf21_0⟩:=Kd.R_celln 0 HO_5.out ((l0.length:Int):Int) p21 q21
                simp only [Int.toNat_natCast] at hx21_0 hf21_0
                replace p21:=eq_true p21
                replace q21:=eq_true q21
                have HP23:=Kd.R_putg HO_5.out ((l0.length:Int):Int) ((x6_1) % 4294967296)
                simp only [Int.toNat_natCast] at HP23
                go_wp2_with (first|((with_reducible refine gate_store (t:=96) (p:=55) rfl ?_);refine store_event (t:=96) (p:=55) (v:=?vo_w24) (w1:=(wr.setCell ⟨go21,l0.length,none⟩ (.int .u32 ((x6_1) % 4294967296)))) ?hg ?ho ?hn ?hr ?_;(case ho=>rfl);(case hg=>rfl);(case hn=>rfl);(case hr=>first|(go_simp;done)|(go_simp;rfl));intro w24 hw;have hg:wr.grownBy w24 (some go21):=(by rw [hw];exact HP23.2);have hp_:Kd.R (Kd.int .u32) 96 w24 w.heap.size (fun _=>True) (.slice (some ⟨go21,0,none⟩) x5_1.length co21) y157:=(by rw [hw,Ny157.out];exact HP23.1);clear HP23;have n0_:=Aside0.mk (hp_);have n1_:=Aside0.mk ((by rw [hw];exact below_set (HB.out) GB21.out:Below w.heap.size w w24));clear HO_5;clear HB;have HO_5:=n0_;have HB:=n1_;clear n0_ n1_;clear hg hw hp_)|((with_reducible refine gate_callee (f:=91) rfl ?_);refine goesL_ (some 57) rfl rfl Tryd.func91 (by kernel_rfl) rfl #[.slice (some ⟨go21,0,none⟩) x5_1.length co21] rfl (by (try simp only [List.map_toArray,List.map_cons,List.map_nil]);first|done|rfl|(simp only [List.length_drop,List.length_take];rfl)) ?_;(with_reducible refine (bignum_trim.calls k1 (fun k_=>some k_=(.slice (some ⟨go21,0,none⟩) x5_1.length co21:Value).ownBlock) (.slice (some ⟨go21,0,none⟩) x5_1.length co21) y157 t158 w _ ?side1 ?side2 A22.out).mono ?_);(case side1=>repeat (first|(with_reducible first|exact HB.out|apply below_alloc|apply pw_below_drewN|apply below_drew1)|exact HB.out));(case side2=>exact Kd.R_tight rfl HO_5.out);rintro e w25 ⟨v159,rfl,ho0,hb,hkp⟩;refine ⟨_,rfl,?_⟩;have n0_:=Aside0.mk (Kd.R_mono (ok':=fun k_=>True) ho0 (fun k_ hk_=>trivial));have n1_:=Aside0.mk (hb);clear HB;clear HO_5;have HO160:=n0_;have HB:=n1_;clear n0_ n1_;(try clear hb);(try clear hkp);(try clear ho0)))
                go_ret
                exact ⟨_,by first|rfl|(simp [errW_none,errW_some] <;> rfl)|(simp only [← hji3];first|rfl|(simp [errW_none,errW_some] <;> rfl))|(simp [*,errW_none,errW_some] <;> rfl),by (with_reducible repeat (first|apply Kd.R_alloc|apply Kd.R_drewN|apply Kd.R_drew));exact HO160.out,by repeat (first|(with_reducible first|exact HB.out|apply below_alloc|apply pw_below_drewN|apply below_drew1)|exact HB.out)⟩
              · rw [if_neg c20] at H
                exact absurd H (by simp)
            · rw [if_neg c19] at H
              exact absurd H (by simp)
    · rw [if_neg c5] at H
      exact absurd H (by simp)
  · rw [if_neg c4] at H
    exact absurd H (by simp)
set_option maxHeartbeats 8000000 in
set_option maxRecDepth 100000 in
theorem bignum_add.swap (k:Nat) (A0:Option Addr) (c0:Nat) (l0:List Int) (A1:Option Addr) (c1:Nat) (l1:List Int) (r:List Int) (w:World) (hr0:Kd.C (Kd.int .u32) w A0 l0.length l0) (hc0:l0.length≤c0) (hr1:Kd.C (Kd.int .u32) w A1 l1.length l1) (hc1:l1.length≤c1) (hsw:decide (l1.length < l0.length)=true) (h:bignum_add.f k l0 l1=some r) :
    Calls Tryd.prog 73 #[.slice A1 l1.length c1,.slice A0 l0.length c0] w fun e w'=>∃ v0_:Value,e=.returned (v0_)∧Kd.R (Kd.int .u32) 96 w' w.heap.size (fun _=>True) v0_ r∧Below w.heap.size w w':=by
  have HR0:=Aside0.mk hr0
  have HC0:=Aside0.mk hc0
  clear hr0 hc0
  have HR1:=Aside0.mk hr1
  have HC1:=Aside0.mk hc1
  clear hr1 hc1
  have HB:=Aside0.mk (Below.refl w.heap.size w)
  have H:(if 0≤(wrap64 ((l0.length:Int) + 1)) then (if (wrap64 ((l0.length:Int) + 1):Int).toNat≤70368744177664 then (bignum_add.l0 k l0 l1 (List.replicate (wrap64 ((l0.length:Int) + 1):Int).toNat 0) 0 0) else (none)) else (none))=some r:=h
  clear h
  obtain ⟨ji3,hji3⟩:∃ j_:Int,(wrap64 ((l0.length:Int) + 1))=j_:=⟨_,rfl⟩
  replace H:(if 0≤(ji3) then (if (ji3:Int).toNat≤70368744177664 then (bignum_add.l0 k l0 l1 (List.replicate (ji3:Int).toNat 0) 0 0) else (none)) else (none))=some r:=by first|(rw [hji3] at H;exact H)|(simp only [hji3] at H ⊢;exact H)
  have hji3w:(IntKind.i64.wrap ((l0.length:Int) + 1))=ji3:=(i64_w _).trans hji3
  by_cases c4:0≤(ji3)
  · rw [if_pos c4] at H
    have c4b0:=eq_true c4
    have c4b1:decide (0≤(ji3))=true:=decide_eq_true c4
    clear c4
    by_cases c5:(ji3:Int).toNat≤70368744177664
    · rw [if_pos c5] at H
      have c5b0:=eq_true c5
      have c5b1:decide ((ji3:Int).toNat≤70368744177664)=true:=decide_eq_true c5
      clear c5
      obtain ⟨y150,hy150⟩:∃ y_:List Int,y_=(List.replicate (ji3:Int).toNat 0):=⟨_,rfl⟩
      replace H:(bignum_add.l0 k l0 l1 y150 0 0)=some r:=by first|(rw [hy150];with_reducible exact H)|(have H2_:=(Option.bind_some _ _).symm.trans H;rw [hy150];with_reducible exact H2_)|(have H2_:=(Option.bind_some _ _).symm.trans H;with_reducible exact H2_)|with_reducible exact H|(rw [hy150];exact H)|exact H
      have Ny150:=Aside0.mk hy150
      clear hy150
      have H':=Aside0.mk H
      clear H
      go_enter Tryd.func73,Tryd.ntmps73
      go_wp2_with (first|((with_reducible refine gate_dst (N:=18) rfl ?_);refine Kd.R_make (Kd.int .u32) _ 96 rfl (N:=18) rfl 74 _ _ rfl ji3 rfl rfl Tryd.underlying74 (.int .u32 0) 4 info96 rfl (by decide) (by omega) 0 (ok:=fun _=>True) (okp:=fun _=>True) rfl (fun _ hk=>hk) trivial (of_decide_eq_true (by first|(with_reducible assumption)|assumption)) (Nat.le_trans (Nat.mul_le_mul_right _ (of_decide_eq_true (by first|(with_reducible assumption)|assumption):ji3.toNat≤70368744177664)) (by omega)) (Below.refl _ _) (Nat.le_refl _) ?_;intro v151 w6 ho7 hb hg_ hnew_;clear hg_ hnew_;(first|rw [← Ny150.out] at ho7|(simp only [Int.reduceToNat] at ho7;rw [← Ny150.out] at ho7));have n0_:=Aside0.mk (Kd.R_lower ho7 (below_size (by repeat (first|(with_reducible first|exact HB.out|apply below_alloc|apply pw_below_drewN|apply below_drew1)|exact HB.out))));have n1_:=Aside0.mk (below_step (by repeat (first|(with_reducible first|exact HB.out|apply below_alloc|apply pw_below_drewN|apply below_drew1)|exact HB.out)) hb);clear HB;have HO152:=n0_;have HB:=n1_;clear n0_ n1_;clear hb ho7))
      go_loopg [6,7] k (fun kq v6 v7 w'=>∃ (x5_1:List Int) (x6_1:Int) (x7_1:Int),v6=.int .u64 x6_1∧v7=.int .i64 x7_1∧Aside0 (bignum_add.l0 kq l0 l1 x5_1 x6_1 x7_1=some r)∧Aside0 (kq≤k)∧Aside0 (Kd.R (Kd.int .u32) 96 w' w.heap.size (fun _=>True) v151 x5_1)∧Aside0 (Below w.heap.size w w'))
      case atStart=>exact ⟨(y150),(0),(0),(by first|rfl|(simp;done)|(simp [*];done)),(by first|rfl|(simp;done)|(simp [*];done)),H',⟨Nat.le_refl _⟩,⟨by (with_reducible repeat (first|apply Kd.R_alloc|apply Kd.R_drewN|apply Kd.R_drew));exact HO152.out⟩,⟨by repeat (first|(with_reducible first|exact HB.out|apply below_alloc|apply pw_below_drewN|apply below_drew1)|exact HB.out)⟩⟩
      case round =>
        clear H'
        try clear c1
        try clear p2
        try clear c4
        try clear c4b0
        try clear c4b1
        try clear c5
        try clear c5b0
        try clear c5b1
        try clear p6
        try clear c7
        obtain ⟨x5_1,x6_1,x7_1,rfl,rfl,HA,HK1,HO_5,HB⟩:=hrel
        cases gk with
        | zero=>exact absurd HA.out (by simp [bignum_add.l0])
        | succ k1 =>
          have H:=HA.out
          clear HA
          simp only [bignum_add.l0] at H
          by_cases c8:x7_1 < (l0.length:Int)
          · rw [if_pos c8] at H
            have c8b0:decide (x7_1 < (l0.length:Int))=true:=decide_eq_true c8
            clear c8
            by_cases c9:0≤x7_1
            · rw [if_pos c9] at H
              have c9b0:decide (0≤x7_1)=true:=decide_eq_true c9
              clear c9
              by_cases c10:x7_1 < (l1.length:Int)
              · rw [if_pos c10] at H
                have c10b0:decide (x7_1 < (l1.length:Int))=true:=decide_eq_true c10
                clear c10
                by_cases c11:x7_1 < (x5_1.length:Int)
                · rw [if_pos c11] at H
                  have c11b0:decide (x7_1 < (x5_1.length:Int))=true:=decide_eq_true c11
                  clear c11
                  obtain ⟨y155,hy155⟩:∃ y_:List Int,y_=(x5_1.set (x7_1:Int).toNat ((IntKind.u64.wrap ((IntKind.u64.wrap (x6_1 + (IntKind.u64.wrap (rd l0 x7_1)))) + (IntKind.u64.wrap (rd l1 x7_1)))) % 4294967296)):=⟨_,rfl⟩
                  replace H:(bignum_add.l0 k1 l0 l1 y155 ((IntKind.u64.wrap ((IntKind.u64.wrap (x6_1 + (IntKind.u64.wrap (rd l0 x7_1)))) + (IntKind.u64.wrap (rd l1 x7_1)))) / 4294967296) (wrap64 (x7_1 + 1)))=some r:=by first|(rw [hy155];with_reducible exact H)|(have H2_:=(Option.bind_some _ _).symm.trans H;rw [hy155];with_reducible exact H2_)|(have H2_:=(Option.bind_some _ _).symm.trans H;with_reducible exact H2_)|with_reducible exact H|(rw [hy155];exact H)|exact H
                  have Ny155:=Aside0.mk hy155
                  clear hy155
                  have H':=Aside0.mk H
                  clear H
                  have p153:0≤(x7_1:Int):=of_decide_eq_true (by first|(with_reducible assumption)|assumption)
                  have q153:x7_1 < (l0.length:Int):=of_decide_eq_true (by first|(with_reducible assumption)|assumption)
                  obtain ⟨ad153,e153,hx153_0⟩:=Kd.at_int HR0.out x7_1 p153 q153
                  cases e153
                  replace hx153_0:=(HB.out.cell (World.block_lt_of_cell? w _ hx153_0)).trans hx153_0
                  replace p153:=eq_true p153
                  replace q153:=eq_true q153
                  have p154:0≤(x7_1:Int):=of_decide_eq_true (by first|(with_reducible assumption)|assumption)
                  have q154:x7_1 < (l1.length:Int):=of_decide_eq_true (by first|(with_reducible assumption)|assumption)
                  obtain ⟨ad154,e154,hx154_0⟩:=Kd.at_int HR1.out x7_1 p154 q154
                  cases e154
                  replace hx154_0:=(HB.out.cell (World.block_lt_of_cell? w _ hx154_0)).trans hx154_0
                  replace p154:=eq_true p154
                  replace q154:=eq_true q154
                  have p12:0≤(x7_1:Int):=of_decide_eq_true (by first|(with_reducible assumption)|assumption)
                  have q12:(x7_1:Int) < ((x5_1.length:Int):Int):=of_decide_eq_true (by first|(with_reducible assumption)|assumption)
                  obtain ⟨go12,co12,eo12,gb12,gl12,cl12,HG12⟩:=Kd.R_form HO_5.out (by omega)
                  (first|cases eo12|(injection eo12 with ea_ en_ ec_;(first|subst ea_|(injection ea_ with ea_;subst ea_));subst ec_;clear en_))
                  have GB12:=Aside0.mk gb12
                  have GG12:=Aside0.mk HG12
                  clear gb12 gl12 HG12
                  obtain ⟨hx12_0,hf12_0⟩:=Kd.R_celln 0 HO_5.out (x7_1:Int) p12 q12
                  replace p12:=eq_true p12
                  replace q12:=eq_true q12
                  have HP13:=Kd.R_putg HO_5.out (x7_1:Int) ((IntKind.u64.wrap ((IntKind.u64.wrap (x6_1 + (IntKind.u64.wrap (rd l0 x7_1)))) + (IntKind.u64.wrap (rd l1 x7_1)))) % 4294967296)
                  go_wp2_with (first|((with_reducible refine gate_store (t:=96) (p:=47) rfl ?_);refine store_event (t:=96) (p:=47) (v:=?vo_w14) (w1:=(wr.setCell ⟨go12,(x7_1:Int).toNat,none⟩ (.int .u32 ((IntKind.u64.wrap ((IntKind.u64.wrap (x6_1 + (IntKind.u64.wrap (rd l0 x7_1)))) + (IntKind.u64.wrap (rd l1 x7_1)))) % 4294967296)))) ?hg ?ho ?hn ?hr ?_;(case ho=>rfl);(case hg=>rfl);(case hn=>rfl);(case hr=>first|(go_simp;done)|(go_simp;rfl));intro w14 hw;have hg:wr.grownBy w14 (some go12):=(by rw [hw];exact HP13.2);have hp_:Kd.R (Kd.int .u32) 96 w14 w.heap.size (fun _=>True) (.slice (some ⟨go12,0,none⟩) x5_1.length co12) y155:=(by rw [hw,Ny155.out];exact HP13.1);clear HP13;have n0_:=Aside0.mk (hp_);have n1_:=Aside0.mk ((by rw [hw];exact below_set (HB.out) GB12.out:Below w.heap.size w w14));clear HO_5;clear HB;have HO_5:=n0_;have HB:=n1_;clear n0_ n1_;clear hg hw hp_))
                  go_roundg k1
                  case measure=>have:=HK1.out;omega
                  case rel=>exact ⟨(y155),((IntKind.u64.wrap ((IntKind.u64.wrap (x6_1 + (IntKind.u64.wrap (rd l0 x7_1)))) + (IntKind.u64.wrap (rd l1 x7_1)))) / 4294967296),(wrap64 (x7_1 + 1)),(by first|rfl|(simp;done)|(simp [*];done)),(by first|rfl|(simp;done)|(simp [*];done)),H',⟨by have:=HK1.out;omega⟩,⟨by (with_reducible repeat (first|apply Kd.R_alloc|apply Kd.R_drewN|apply Kd.R_drew));exact HO_5.out⟩,⟨by repeat (first|(with_reducible first|exact HB.out|apply below_alloc|apply pw_below_drewN|apply below_drew1)|exact HB.out)⟩⟩
                · rw [if_neg c11] at H
                  exact absurd H (by simp)
              · rw [if_neg c10] at H
                have c10b0:decide (x7_1 < (l1.length:Int))=false:=decide_eq_false c10
                clear c10
                by_cases c15:x7_1 < (x5_1.length:Int)
                · rw [if_pos c15] at H
                  have c15b0:decide (x7_1 < (x5_1.length:Int))=true:=decide_eq_true c15
                  clear c15
                  obtain ⟨y156,hy156⟩:∃ y_:List Int,y_=(x5_1.set (x7_1:Int).toNat ((IntKind.u64.wrap (x6_1 + (IntKind.u64.wrap (rd l0 x7_1)))) % 4294967296)):=⟨_,rfl⟩
                  replace H:(bignum_add.l0 k1 l0 l1 y156 ((IntKind.u64.wrap (x6_1 + (IntKind.u64.wrap (rd l0 x7_1)))) / 4294967296) (wrap64 (x7_1 + 1)))=some r:=by first|(rw [hy156];with_reducible exact H)|(have H2_:=(Option.bind_some _ _).symm.trans H;rw [hy156];with_reducible exact H2_)|(have H2_:=(Option.bind_some _ _).symm.trans H;with_reducible exact H2_)|with_reducible exact H|(rw [hy156];exact H)|exact H
                  have Ny156:=Aside0.mk hy156
                  clear hy156
                  have H':=Aside0.mk H
                  clear H
                  have p153:0≤(x7_1:Int):=of_decide_eq_true (by first|(with_reducible assumption)|assumption)
                  have q153:x7_1 < (l0.length:Int):=of_decide_eq_true (by first|(with_reducible assumption)|assumption)
                  obtain ⟨ad153,e153,hx153_0⟩:=Kd.at_int HR0.out x7_1 p153 q153
                  cases e153
                  replace hx153_0:=(HB.out.cell (World.block_lt_of_cell? w _ hx153_0)).trans hx153_0
                  replace p153:=eq_true p153
                  replace q153:=eq_true q153
                  have p16:0≤(x7_1:Int):=of_decide_eq_true (by first|(with_reducible assumption)|assumption)
                  have q16:(x7_1:Int) < ((x5_1.length:Int):Int):=of_decide_eq_true (by first|(with_reducible assumption)|assumption)
                  obtain ⟨go16,co16,eo16,gb16,gl16,cl16,HG16⟩:=Kd.R_form HO_5.out (by omega)
                  (first|cases eo16|(injection eo16 with ea_ en_ ec_;(first|subst ea_|(injection ea_ with ea_;subst ea_));subst ec_;clear en_))
                  have GB16:=Aside0.mk gb16
                  have GG16:=Aside0.mk HG16
                  clear gb16 gl16 HG16
                  obtain ⟨hx16_0,hf16_0⟩:=Kd.R_celln 0 HO_5.out (x7_1:Int) p16 q16
                  replace p16:=eq_true p16
                  replace q16:=eq_true q16
                  have HP17:=Kd.R_putg HO_5.out (x7_1:Int) ((IntKind.u64.wrap (x6_1 + (IntKind.u64.wrap (rd l0 x7_1)))) % 4294967296)
                  go_wp2_with (first|((with_reducible refine gate_store (t:=96) (p:=47) rfl ?_);refine store_event (t:=96) (p:=47) (v:=?vo_w18) (w1:=(wr.setCell ⟨go16,(x7_1:Int).toNat,none⟩ (.int .u32 ((IntKind.u64.wrap (x6_1 + (IntKind.u64.wrap (rd l0 x7_1)))) % 4294967296)))) ?hg ?ho ?hn ?hr ?_;(case ho=>rfl);(case hg=>rfl);(case hn=>rfl);(case hr=>first|(go_simp;done)|(go_simp;rfl));intro w18 hw;have hg:wr.grownBy w18 (some go16):=(by rw [hw];exact HP17.2);have hp_:Kd.R (Kd.int .u32) 96 w18 w.heap.size (fun _=>True) (.slice (some ⟨go16,0,none⟩) x5_1.length co16) y156:=(by rw [hw,Ny156.out];exact HP17.1);clear HP17;have n0_:=Aside0.mk (hp_);have n1_:=Aside0.mk ((by rw [hw];exact below_set (HB.out) GB16.out:Below w.heap.size w w18));clear HO_5;clear HB;have HO_5:=n0_;have HB:=n1_;clear n0_ n1_;clear hg hw hp_))
                  go_roundg k1
                  case measure=>have:=HK1.out;omega
                  case rel=>exact ⟨(y156),((IntKind.u64.wrap (x6_1 + (IntKind.u64.wrap (rd l0 x7_1)))) / 4294967296),(wrap64 (x7_1 + 1)),(by first|rfl|(simp;done)|(simp [*];done)),(by first|rfl|(simp;done)|(simp [*];done)),H',⟨by have:=HK1.out;omega⟩,⟨by (with_reducible repeat (first|apply Kd.R_alloc|apply Kd.R_drewN|apply Kd.R_drew));exact HO_5.out⟩,⟨by repeat (first|(with_reducible first|exact HB.out|apply below_alloc|apply pw_below_drewN|apply below_drew1)|exact HB.out)⟩⟩
                · rw [if_neg c15] at H
                  exact absurd H (by simp)
            · rw [if_neg c9] at H
              exact absurd H (by simp)
          · rw [if_neg c8] at H
            have c8b0:decide (x7_1 < (l0.length:Int))=false:=decide_eq_false c8
            clear c8
            by_cases c19:0≤(l0.length:Int)
            · rw [if_pos c19] at H
              have c19b0:decide (0≤(l0.length:Int))=true:=decide_eq_true c19
              have c19b1:decide (0≤l0.length)=true:=decide_eq_true (by omega)
              clear c19
              by_cases c20:(l0.length:Int) < (x5_1.length:Int)
              · rw [if_pos c20] at H
                have c20b0:decide ((l0.length:Int) < (x5_1.length:Int))=true:=decide_eq_true c20
                have c20b1:decide (l0.length < x5_1.length)=true:=decide_eq_true (Int.ofNat_lt.mp c20)
                clear c20
                obtain ⟨y157,hy157⟩:∃ y_:List Int,y_=(x5_1.set ((l0.length:Int):Int).toNat ((x6_1) % 4294967296)):=⟨_,rfl⟩
                replace H:((bignum_trim.f k1 y157).bind fun t158=>(some t158))=some r:=by first|(rw [hy157];with_reducible exact H)|(have H2_:=(Option.bind_some _ _).symm.trans H;rw [hy157];with_reducible exact H2_)|(have H2_:=(Option.bind_some _ _).symm.trans H;with_reducible exact H2_)|with_reducible exact H|(rw [hy157];exact H)|exact H
                have Ny157:=Aside0.mk hy157
                clear hy157
                replace H:=Option.bind_eq_some_iff.mp H
                obtain ⟨t158,A220,H⟩:=H
                replace H:(some t158)=some r:=H
                have A22:=Aside0.mk A220
                clear A220
                obtain rfl:=Option.some.inj H
                have p21:0≤((l0.length:Int):Int):=of_decide_eq_true (by first|(with_reducible assumption)|assumption)
                have q21:((l0.length:Int):Int) < ((x5_1.length:Int):Int):=of_decide_eq_true (by first|(with_reducible assumption)|assumption)
                obtain ⟨go21,co21,eo21,gb21,gl21,cl21,HG21⟩:=Kd.R_form HO_5.out (by omega)
                (first|cases eo21|(injection eo21 with ea_ en_ ec_;(first|subst ea_|(injection ea_ with ea_;subst ea_));subst ec_;clear en_))
                have GB21:=Aside0.mk gb21
                have GG21:=Aside0.mk HG21
                clear gb21 gl21 HG21
                obtain ⟨hx21_0,hf21_0⟩:=Kd.R_celln 0 HO_5.out ((l0.length:Int):Int) p21 q21
                simp only [Int.toNat_natCast] at hx21_0 hf21_0
                replace p21:=eq_true p21
                replace q21:=eq_true q21
                have HP23:=Kd.R_putg HO_5.out ((l0.length:Int):Int) ((x6_1) % 4294967296)
                simp only [Int.toNat_natCast] at HP23
                go_wp2_with (first|((with_reducible refine gate_store (t:=96) (p:=55) rfl ?_);refine store_event (t:=96) (p:=55) (v:=?vo_w24) (w1:=(wr.setCell ⟨go21,l0.length,none⟩ (.int .u32 ((x6_1) % 4294967296)))) ?hg ?ho ?hn ?hr ?_;(case ho=>rfl);(case hg=>rfl);(case hn=>rfl);(case hr=>first|(go_simp;done)|(go_simp;rfl));intro w24 hw;have hg:wr.grownBy w24 (some go21):=(by rw [hw];exact HP23.2);have hp_:Kd.R (Kd.int .u32) 96 w24 w.heap.size (fun _=>True) (.slice (some ⟨go21,0,none⟩) x5_1.length co21) y157:=(by rw [hw,Ny157.out];exact HP23.1);clear HP23;have n0_:=Aside0.mk (hp_);have n1_:=Aside0.mk ((by rw [hw];exact below_set (HB.out) GB21.out:Below w.heap.size w w24));clear HO_5;clear HB;have HO_5:=n0_;have HB:=n1_;clear n0_ n1_;clear hg hw hp_)|((with_reducible refine gate_callee (f:=91) rfl ?_);refine goesL_ (some 57) rfl rfl Tryd.func91 (by kernel_rfl) rfl #[.slice (some ⟨go21,0,none⟩) x5_1.length co21] rfl (by (try simp only [List.map_toArray,List.map_cons,List.map_nil]);first|done|rfl|(simp only [List.length_drop,List.length_take];rfl)) ?_;(with_reducible refine (bignum_trim.calls k1 (fun k_=>some k_=(.slice (some ⟨go21,0,none⟩) x5_1.length co21:Value).ownBlock) (.slice (some ⟨go21,0,none⟩) x5_1.length co21) y157 t158 w _ ?side1 ?side2 A22.out).mono ?_);(case side1=>repeat (first|(with_reducible first|exact HB.out|apply below_alloc|apply pw_below_drewN|apply below_drew1)|exact HB.out));(case side2=>exact Kd.R_tight rfl HO_5.out);rintro e w25 ⟨v159,rfl,ho0,hb,hkp⟩;refine ⟨_,rfl,?_⟩;have n0_:=Aside0.mk (Kd.R_mono (ok':=fun k_=>True) ho0 (fun k_ hk_=>trivial));have n1_:=Aside0.mk (hb);clear HB;clear HO_5;have HO160:=n0_;have HB:=n1_;clear n0_ n1_;(try clear hb);(try clear hkp);(try clear ho0)))
                go_ret
                exact ⟨_,by first|rfl|(simp [errW_none,errW_some] <;> rfl)|(simp only [← hji3];first|rfl|(simp [errW_none,errW_some] <;> rfl))|(simp [*,errW_none,errW_some] <;> rfl),by (with_reducible repeat (first|apply Kd.R_alloc|apply Kd.R_drewN|apply Kd.R_drew));exact HO160.out,by repeat (first|(with_reducible first|exact HB.out|apply below_alloc|apply pw_below_drewN|apply below_drew1)|exact HB.out)⟩
              · rw [if_neg c20] at H
                exact absurd H (by simp)
            · rw [if_neg c19] at H
              exact absurd H (by simp)
    · rw [if_neg c5] at H
      exact absurd H (by simp)
  · rw [if_neg c4] at H
    exact absurd H (by simp)
end Go.Proofs.YtalhpbilkhdfhaaDoor.XBn
