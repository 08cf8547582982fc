import Derived.Test.YtalhpbilkhdfhaaDoorTRTh
namespace Go.Proofs.YtalhpbilkhdfhaaDoor
open Go Go.RowKit Nv
open Go.Proofs.YtalhpbilkhdfhaaDoorW.PrintWords (Kd Drawn0 gate_dst)
open XBn
set_option maxRecDepth 100000
set_option linter.unusedSimpArgs false
set_option maxHeartbeats 4000000 in
theorem ior_c {w:World} {z x y:Nat} {u v t:Int} (hz:IntAt w z u) (hx:IntAt w x v) (hy:IntAt w y t) (hv:0≤v) (ht:0≤t) (hs:Sm v) (ks:Sm t):Calls Tryd.prog 62 #[pt z,pt x,pt y] w fun e w'=>e=.returned (pt z)∧IntAt w' z ((v.toNat ||| t.toNat:Nat):Int)∧Bz z w w':=by
  obtain ⟨xg,xs,a,hx⟩:=hx.rd
  obtain ⟨yg,ys,b,hy⟩:=hy.rd
  have gx:xg=false:=by
    cases xg
    · rfl
    · exfalso;have h1:=hx.val;have h2:=hx.nz rfl;have h3:=hx.wd.nonneg;unfold sg at h1;simp only [if_true] at h1;omega
  have gy:yg=false:=by
    cases yg
    · rfl
    · exfalso;have h1:=hy.val;have h2:=hy.nz rfl;have h3:=hy.wd.nonneg;unfold sg at h1;simp only [if_true] at h1;omega
  subst gx gy
  have ev:v=a:=hx.val
  have et:t=b:=hy.val
  subst ev et
  have bx:=hx.blk
  have by_:=hy.blk
  obtain ⟨A,cA,l,rfl,hl,hN,hn,hC⟩:=hx.wd.cells
  obtain ⟨B,cB,m,rfl,hm,hM,hm2,hD⟩:=hy.wd.cells
  have ll:=len_of hN (by rw [hn];exact hs)
  have lm:=len_of hM (by rw [hm2];exact ks)
  obtain ⟨n,hnn⟩:∃ n,max l.length m.length + 1=n:=⟨_,rfl⟩
  have n1:l.length≤n:=by omega
  have n2:m.length≤n:=by omega
  have n3:n≤1000002:=by omega
  have hle:l.length≤n - 1:=by omega
  have hle2:m.length≤n - 1:=by omega
  have np:0 < n:=by omega
  have LX:Hid (∀ w',Below w.heap.size w w'→Calls Tryd.prog 85 #[pt x,.int .i64 n] w' fun e w2=>e=.returned (.slice (some ⟨w'.heap.size,0,none⟩) n n)∧RowW w2 w'.heap.size (l ++ List.replicate (n - l.length) 0)∧Below w'.heap.size w' w2):=Lib.hid (fun w' h=>low_c l A cA (bx.below h) (fun h0=>by obtain ⟨ad,e,h2⟩:=hC h0;exact ⟨ad,e,fun j hj=>kb_cX h (h2 j hj)⟩) n n1 n3)
  have LY:Hid (∀ w',Below w.heap.size w w'→Calls Tryd.prog 85 #[pt y,.int .i64 n] w' fun e w2=>e=.returned (.slice (some ⟨w'.heap.size,0,none⟩) n n)∧RowW w2 w'.heap.size (m ++ List.replicate (n - m.length) 0)∧Below w'.heap.size w' w2):=Lib.hid (fun w' h=>low_c m B cB (by_.below h) (fun h0=>by obtain ⟨ad,e,h2⟩:=hD h0;exact ⟨ad,e,fun j hj=>kb_cX h (h2 j hj)⟩) n n2 n3)
  obtain ⟨za,ea⟩:=nN_app_zeros l (n - l.length) hN.1
  obtain ⟨zb,eb⟩:=nN_app_zeros m (n - m.length) hM.1
  have la:(l ++ List.replicate (n - l.length) (0:Int)).length=n:=by simp;omega
  have lb:(m ++ List.replicate (n - m.length) (0:Int)).length=n:=by simp;omega
  have ea2:nN (l ++ List.replicate (n - l.length) (0:Int))=v.toNat:=by rw [ea];unfold nN;rw [hn]
  have eb2:nN (m ++ List.replicate (n - m.length) (0:Int))=t.toNat:=by rw [eb];unfold nN;rw [hm2]
  obtain ⟨L,hL⟩:∃ L,l ++ List.replicate (n - l.length) (0:Int)=L:=⟨_,rfl⟩
  obtain ⟨M,hM'⟩:∃ M,m ++ List.replicate (n - m.length) (0:Int)=M:=⟨_,rfl⟩
  rw [hL] at LX za la ea2
  rw [hM'] at LY zb lb eb2
  have hcase:(l.length < m.length∧wrap64 ((m.length:Int) + 1)=(n:Int)∧IntKind.i64.wrap ((m.length:Int) + 1)=(n:Int)) ∨ (¬ l.length < m.length∧wrap64 ((l.length:Int) + 1)=(n:Int)∧IntKind.i64.wrap ((l.length:Int) + 1)=(n:Int)):=by
    rcases Nat.lt_or_ge l.length m.length with h|h
    · have e:(m.length:Int) + 1=(n:Int):=by omega
      rw [e]
      exact Or.inl ⟨h,by unfold wrap64;omega,by rw [IntKind.wrap_i64];omega⟩
    · have e:(l.length:Int) + 1=(n:Int):=by omega
      rw [e]
      exact Or.inr ⟨by omega,by unfold wrap64;omega,by rw [IntKind.wrap_i64];omega⟩
  have c1:=bx.c1
  have d1:=by_.c1
  have HZ0:=Lib.hid hz
  have BX:=Lib.hid bx
  have BY:=Lib.hid by_
  have HV:=Lib.hid hv
  have HT:=Lib.hid ht
  have ZA:=Lib.hid za
  have ZB:=Lib.hid zb
  have LA:=Lib.hid la
  have LB:=Lib.hid lb
  have EA:=Lib.hid ea2
  have EB:=Lib.hid eb2
  have N3:=Lib.hid n3
  have NP:=Lib.hid np
  have SML:Hid (v.toNat < 4294967296 ^ (n - 1)):=Lib.hid (by
    have h1:=nN_lt hN.1
    have h2:nN l=v.toNat:=by unfold nN;rw [hn]
    rw [h2] at h1
    exact Nat.lt_of_lt_of_le h1 (Nat.pow_le_pow_right (Nat.zero_lt_succ _) hle))
  have SMM:Hid (t.toNat < 4294967296 ^ (n - 1)):=Lib.hid (by
    have h1:=nN_lt hM.1
    have h2:nN m=t.toNat:=by unfold nN;rw [hm2]
    rw [h2] at h1
    exact Nat.lt_of_lt_of_le h1 (Nat.pow_le_pow_right (Nat.zero_lt_succ _) hle2))
  clear hle hle2 np hz hx hy bx by_ hv ht za zb la lb ea eb ea2 eb2 hC hD hN hM hn hm2 hs ks hnn n1 n2 n3 hL hM' hl hm ll lm
  rcases hcase with ⟨hc,wE,wE2⟩|⟨hc,wE,wE2⟩
  all_goals
    go_enter Tryd.func62,Tryd.ntmps62
    go_upto_region 1 with (fail)
    have hS:w.drew.cell? ⟨x,1,none⟩=some (.slice A l.length cA)∧w.drew.cell? ⟨y,1,none⟩=some (.slice B m.length cB):=⟨c1,d1⟩
    refine wp_region_G (g:=12) (S:=fun w'=>w'.cell? ⟨x,1,none⟩=some (.slice A l.length cA)∧w'.cell? ⟨y,1,none⟩=some (.slice B m.length cB)) (by kernel_rfl) ?_
    (refine wpG_take (i:=0) (v:=?_) rfl rfl (by kernel_rfl) (by kernel_rfl) (by kernel_rfl) (fun _ _ _ h=>h) (Or.inl ⟨by rfl,fun w=>?_⟩) (Or.inr hS) ?_;rotate_left;focus (go_simp;first|done|with_reducible rfl|exact rfl));(try simp only [Act.put,zA,zB,zC,zD,zE,zF]);(refine wpG_take (i:=1) (v:=?_) rfl rfl (by kernel_rfl) (by kernel_rfl) (by kernel_rfl) (fun _ _ _ h=>h) (Or.inl ⟨by rfl,fun w=>?_⟩) (Or.inr hS) ?_;rotate_left;focus (go_simp;first|done|with_reducible rfl|exact rfl));(try simp only [Act.put,zA,zB,zC,zD,zE,zF]);(refine wpG_take (i:=2) (v:=?_) rfl rfl (by kernel_rfl) (by kernel_rfl) (by kernel_rfl) (fun _ _ _ h=>h) (Or.inl ⟨by rfl,fun w=>?_⟩) (Or.inr hS) ?_;rotate_left;focus (go_simp;first|done|with_reducible rfl|exact rfl));(try simp only [Act.put,zA,zB,zC,zD,zE,zF])
    (refine wpG_ldC (i:=3) [4,12] (v:=?_) rfl rfl (by kernel_rfl) (by kernel_rfl) (by kernel_rfl) (by kernel_rfl) (fun _ _ _ h=>h) (Or.inl ⟨by rfl,?_⟩) hS ?_;rotate_left;focus (intro w hSw;(try dsimp only at hSw);go_simp;first|done|with_reducible rfl|exact rfl));(try simp only [Act.put,zA,zB,zC,zD,zE,zF])
    (refine wpG_take (i:=4) (v:=?_) rfl rfl (by kernel_rfl) (by kernel_rfl) (by kernel_rfl) (fun _ _ _ h=>h) (Or.inl ⟨by rfl,fun w=>?_⟩) (Or.inr hS) ?_;rotate_left;focus (go_simp;first|done|with_reducible rfl|exact rfl));(try simp only [Act.put,zA,zB,zC,zD,zE,zF]);(refine wpG_take (i:=5) (v:=?_) rfl rfl (by kernel_rfl) (by kernel_rfl) (by kernel_rfl) (fun _ _ _ h=>h) (Or.inl ⟨by rfl,fun w=>?_⟩) (Or.inr hS) ?_;rotate_left;focus (go_simp;first|done|with_reducible rfl|exact rfl));(try simp only [Act.put,zA,zB,zC,zD,zE,zF]);(refine wpG_take (i:=6) (v:=?_) rfl rfl (by kernel_rfl) (by kernel_rfl) (by kernel_rfl) (fun _ _ _ h=>h) (Or.inl ⟨by rfl,fun w=>?_⟩) (Or.inr hS) ?_;rotate_left;focus (go_simp;first|done|with_reducible rfl|exact rfl));(try simp only [Act.put,zA,zB,zC,zD,zE,zF]);(refine wpG_take (i:=7) (v:=?_) rfl rfl (by kernel_rfl) (by kernel_rfl) (by kernel_rfl) (fun _ _ _ h=>h) (Or.inl ⟨by rfl,fun w=>?_⟩) (Or.inr hS) ?_;rotate_left;focus (go_simp;first|done|with_reducible rfl|exact rfl));(try simp only [Act.put,zA,zB,zC,zD,zE,zF])
    (refine wpG_ldC (i:=8) [9,12] (v:=?_) rfl rfl (by kernel_rfl) (by kernel_rfl) (by kernel_rfl) (by kernel_rfl) (fun _ _ _ h=>h) (Or.inl ⟨by rfl,?_⟩) hS ?_;rotate_left;focus (intro w hSw;(try dsimp only at hSw);go_simp;first|done|with_reducible rfl|exact rfl));(try simp only [Act.put,zA,zB,zC,zD,zE,zF])
    (refine wpG_take (i:=9) (v:=?_) rfl rfl (by kernel_rfl) (by kernel_rfl) (by kernel_rfl) (fun _ _ _ h=>h) (Or.inl ⟨by rfl,fun w=>?_⟩) (Or.inr hS) ?_;rotate_left;focus (go_simp;first|done|with_reducible rfl|exact rfl));(try simp only [Act.put,zA,zB,zC,zD,zE,zF]);(refine wpG_take (i:=10) (v:=?_) rfl rfl (by kernel_rfl) (by kernel_rfl) (by kernel_rfl) (fun _ _ _ h=>h) (Or.inl ⟨by rfl,fun w=>?_⟩) (Or.inr hS) ?_;rotate_left;focus (go_simp;first|done|with_reducible rfl|exact rfl));(try simp only [Act.put,zA,zB,zC,zD,zE,zF]);(refine wpG_take (i:=11) (v:=?_) rfl rfl (by kernel_rfl) (by kernel_rfl) (by kernel_rfl) (fun _ _ _ h=>h) (Or.inl ⟨by rfl,fun w=>?_⟩) (Or.inr hS) ?_;rotate_left;focus (go_simp;first|done|with_reducible rfl|exact rfl));(try simp only [Act.put,zA,zB,zC,zD,zE,zF])
    refine wpG_one (i:=12) (by kernel_rfl) rfl (fun K hK=>?_);have HK:=Lib.hid hK;clear hK;go_simp;refine HK.out _ _ (Or.inl (by kernel_rfl)) ?_;clear HK K;(try simp only [Act.put,zA,zB,zC,zD,zE,zF])
    refine wpG_done (by kernel_rfl) ?_ _
    have B1:=Lib.hid (dr_below w)
    obtain ⟨w1,hw1⟩:∃ w1,w.drew=w1:=⟨_,rfl⟩
    rw [hw1] at B1
    simp only [hw1]
    clear hw1 hS c1 d1
    go_upto_region 3 with (first
      | (go_at_call 85;(with_reducible refine (LX.out _ B1.out).mono ?_);rintro e w2 ⟨rfl,hr,hb⟩;have R1:=Lib.hid hr;have B2:=Lib.hid (bl_then B1.out hb);have H1:=Lib.hid (kb_lt hr.1);clear hr hb)
      | (go_at_call 85;(with_reducible refine (LY.out _ B2.out).mono ?_);rintro e w3 ⟨rfl,hr,hb⟩;have R1:=Lib.hid (R1.out.below hb);have R2:=Lib.hid hr;have B3:=Lib.hid (bl_then B2.out hb);clear hr hb))
    have G1:=Lib.hid B1.out.size
    have NE:=Lib.hid (Nat.ne_of_gt H1.out)
    obtain ⟨g1,hg1⟩:∃ g,w1.heap.size=g:=⟨_,rfl⟩
    obtain ⟨g2,hg2⟩:∃ g,w2.heap.size=g:=⟨_,rfl⟩
    rw [hg1] at R1 G1 NE
    rw [hg2] at R2 NE
    simp only [hg1,hg2]
    clear hg1 hg2 LX LY H1 wE wE2 hc
    have P0:Hid (AndL (fun p q=>p ||| q) w w3 g1 g2 L M L 0):=Lib.hid ⟨B3.out,R1.out,R2.out,ZA.out,rfl,by rw [List.take_zero,Nat.pow_zero,Nat.mod_one];unfold nN;rw [nv_nil];rfl,fun j h h' _=>rfl⟩
    clear R1 R2 B1 B2 B3
    go_wp2
    go_loopw [10] (fun v10 wr=>∃ (i:Nat) (r:List Int),v10=.int .i64 i∧i≤n∧Hid (AndL (fun p q=>p ||| q) w wr g1 g2 L M r i)) (fun v10 _=>n - (intOf v10).toNat)
    case atStart=>exact ⟨0,L,rfl,Nat.zero_le _,P0⟩
    case round =>
      obtain ⟨i,r,rfl,hin,hq⟩:=hrel
      by_cases hlt:i < n
      · have l1:decide (i < n)=true:=decide_eq_true hlt
        have hir:i < r.length:=by rw [hq.out.len,LA.out];exact hlt
        have hiL:i < L.length:=by rw [LA.out];exact hlt
        have hiM:i < M.length:=by rw [LB.out];exact hlt
        have e1:=hq.out.rest i hir hiL (Nat.le_refl _)
        have q1:=nN_digit ZA.out hiL
        have q2:=nN_digit ZB.out hiM
        have dA:=ZA.out.at hiL
        have dB:=ZB.out.at hiM
        have ca:=(hq.out.drew).r1.cell hir
        have cb:=(hq.out.drew).r2.cell hiM
        have fa:=(hq.out.drew).r1.fz i
        rw [e1] at ca
        obtain ⟨P,hP⟩:∃ P:Nat,L[i]=(P:Int):=⟨L[i].toNat,(Int.toNat_of_nonneg dA.1).symm⟩
        obtain ⟨Q,hQ⟩:∃ Q:Nat,M[i]=(Q:Int):=⟨M[i].toNat,(Int.toNat_of_nonneg dB.1).symm⟩
        rw [hP] at ca dA q1
        rw [hQ] at cb dB q2
        rw [Int.toNat_natCast] at q1 q2
        have op1:bits .or .u32 (P:Int) (Q:Int)=((P ||| Q:Nat):Int):=u32_or_nat P Q (by omega) (by omega)
        have hd:P ||| Q=(nN L ||| nN M) / 4294967296 ^ i % 4294967296:=by rw [q1,q2];exact or_digit _ _ i
        have NX:=Lib.hid (hq.out.drew.next G1.out NE.out hir hd)
        have i0:(0:Int)≤(i:Int):=Int.natCast_nonneg _
        have i1:(i:Int) < (n:Int):=by omega
        have wi:IntKind.i64.wrap ((i:Int) + 1)=((i + 1:Nat):Int):=by rw [IntKind.wrap_i64];have:=N3.out;omega
        have HLT:=Lib.hid hlt
        clear hq hir hiL hiM e1 q1 q2 dA dB hP hQ hd hlt
        go_upto_region 6 with (fail)
        have hS:wr.drew.cell? ⟨g1,i,none⟩=some (.int .u32 (P:Int))∧wr.drew.cell? ⟨g2,i,none⟩=some (.int .u32 (Q:Int)):=⟨ca,cb⟩
        refine wp_region_G (g:=10) (S:=fun w'=>w'.cell? ⟨g1,i,none⟩=some (.int .u32 (P:Int))∧w'.cell? ⟨g2,i,none⟩=some (.int .u32 (Q:Int))) (by kernel_rfl) ?_
        (refine wpG_take (i:=0) (v:=?_) rfl rfl (by kernel_rfl) (by kernel_rfl) (by kernel_rfl) (fun _ _ _ h=>h) (Or.inl ⟨by rfl,fun w=>?_⟩) (Or.inr hS) ?_;rotate_left;focus (go_simp;first|done|with_reducible rfl|exact rfl));(try simp only [Act.put,zA,zB,zC,zD,zE,zF]);(refine wpG_take (i:=1) (v:=?_) rfl rfl (by kernel_rfl) (by kernel_rfl) (by kernel_rfl) (fun _ _ _ h=>h) (Or.inl ⟨by rfl,fun w=>?_⟩) (Or.inr hS) ?_;rotate_left;focus (go_simp;first|done|with_reducible rfl|exact rfl));(try simp only [Act.put,zA,zB,zC,zD,zE,zF]);(refine wpG_take (i:=2) (v:=?_) rfl rfl (by kernel_rfl) (by kernel_rfl) (by kernel_rfl) (fun _ _ _ h=>h) (Or.inl ⟨by rfl,fun w=>?_⟩) (Or.inr hS) ?_;rotate_left;focus (go_simp;first|done|with_reducible rfl|exact rfl));(try simp only [Act.put,zA,zB,zC,zD,zE,zF])
        (refine wpG_ldC (i:=3) [8,10] (v:=?_) rfl rfl (by kernel_rfl) (by kernel_rfl) (by kernel_rfl) (by kernel_rfl) (fun _ _ _ h=>h) (Or.inl ⟨by rfl,?_⟩) hS ?_;rotate_left;focus (intro w hSw;(try dsimp only at hSw);go_simp;first|done|with_reducible rfl|exact rfl));(try simp only [Act.put,zA,zB,zC,zD,zE,zF])
        (refine wpG_take (i:=4) (v:=?_) rfl rfl (by kernel_rfl) (by kernel_rfl) (by kernel_rfl) (fun _ _ _ h=>h) (Or.inl ⟨by rfl,fun w=>?_⟩) (Or.inr hS) ?_;rotate_left;focus (go_simp;first|done|with_reducible rfl|exact rfl));(try simp only [Act.put,zA,zB,zC,zD,zE,zF]);(refine wpG_take (i:=5) (v:=?_) rfl rfl (by kernel_rfl) (by kernel_rfl) (by kernel_rfl) (fun _ _ _ h=>h) (Or.inl ⟨by rfl,fun w=>?_⟩) (Or.inr hS) ?_;rotate_left;focus (go_simp;first|done|with_reducible rfl|exact rfl));(try simp only [Act.put,zA,zB,zC,zD,zE,zF]);(refine wpG_take (i:=6) (v:=?_) rfl rfl (by kernel_rfl) (by kernel_rfl) (by kernel_rfl) (fun _ _ _ h=>h) (Or.inl ⟨by rfl,fun w=>?_⟩) (Or.inr hS) ?_;rotate_left;focus (go_simp;first|done|with_reducible rfl|exact rfl));(try simp only [Act.put,zA,zB,zC,zD,zE,zF])
        (refine wpG_ldC (i:=7) [8,10] (v:=?_) rfl rfl (by kernel_rfl) (by kernel_rfl) (by kernel_rfl) (by kernel_rfl) (fun _ _ _ h=>h) (Or.inl ⟨by rfl,?_⟩) hS ?_;rotate_left;focus (intro w hSw;(try dsimp only at hSw);go_simp;first|done|with_reducible rfl|exact rfl));(try simp only [Act.put,zA,zB,zC,zD,zE,zF])
        (refine wpG_take (i:=8) (v:=?_) rfl rfl (by kernel_rfl) (by kernel_rfl) (by kernel_rfl) (fun _ _ _ h=>h) (Or.inl ⟨by rfl,fun w=>?_⟩) (Or.inr hS) ?_;rotate_left;focus (go_simp;first|done|with_reducible rfl|exact rfl));(try simp only [Act.put,zA,zB,zC,zD,zE,zF]);(refine wpG_take (i:=9) (v:=?_) rfl rfl (by kernel_rfl) (by kernel_rfl) (by kernel_rfl) (fun _ _ _ h=>h) (Or.inl ⟨by rfl,fun w=>?_⟩) (Or.inr hS) ?_;rotate_left;focus (go_simp;first|done|with_reducible rfl|exact rfl));(try simp only [Act.put,zA,zB,zC,zD,zE,zF])
        try simp only [op1]
        refine wpG_one (i:=10) (by kernel_rfl) rfl (fun K hK=>?_);have HK:=Lib.hid hK;clear hK;go_simp;refine HK.out _ _ (Or.inl (by kernel_rfl)) ?_;clear HK K;(try simp only [Act.put,zA,zB,zC,zD,zE,zF])
        refine wpG_done (by kernel_rfl) ?_ _
        go_wp2
        go_roundw
        case rel=>exact ⟨i + 1,_,by go_num,by have:=HLT.out;omega,NX⟩
        case measure=>have:=HLT.out;simp [intOf];omega
      · have l1:decide (i < n)=false:=decide_eq_false hlt
        have hin2:i=n:=by omega
        subst hin2
        have hlen:r.length=i:=by rw [hq.out.len,LA.out]
        have hp:0 < r.length:=by rw [hlen];exact NP.out
        have hr:=hq.out.r1
        have tot:=hq.out.low
        rw [← hlen,List.take_length] at tot
        have hX:nN L ||| nN M < 4294967296 ^ r.length:=by
          have h1:=nN_lt ZA.out
          have h2:=nN_lt ZB.out
          rw [LA.out] at h1
          rw [LB.out] at h2
          rw [hlen]
          rw [pow_B] at h1 h2 ⊢
          exact Nat.or_lt_two_pow h1 h2
        rw [Nat.mod_eq_of_lt hX,EA.out,EB.out] at tot
        have OC:Hid (Calls Tryd.prog 86 #[pt z,.slice (some ⟨g1,0,none⟩) r.length r.length] wr fun e w'=>e=.returned (pt z)∧IntAt w' z (nv r)∧Bz z w w'):=Lib.hid (of_c HZ0.out hq.out.b G1.out hr hq.out.dg hp (by rw [hlen];exact N3.out) (fun h=>by
          have hd:=nN_digit hq.out.dg h
          rw [tot] at hd
          have hsm:v.toNat ||| t.toNat < 4294967296 ^ (r.length - 1):=by
            have h1:=SML.out
            have h2:=SMM.out
            rw [hlen]
            rw [pow_B] at h1 h2 ⊢
            exact Nat.or_lt_two_pow h1 h2
          rw [Nat.div_eq_of_lt hsm] at hd
          have:=hq.out.dg.at h
          omega))
        rw [hlen] at OC
        have RV:Hid (nv r=((v.toNat ||| t.toNat:Nat):Int)):=Lib.hid ((nN_of_nv hq.out.dg).2 tot)
        clear hq hlt hr tot hX hp hlen
        go_wp2_with (go_at_call 86;(with_reducible refine (OC.out).mono ?_);rintro e w4 ⟨rfl,hI,hz⟩;have HI:=Lib.hid hI;have HZ:=Lib.hid hz;clear hI hz)
        go_ret
        exact ⟨rfl,by rw [← RV.out];exact HI.out,HZ.out⟩
end Go.Proofs.YtalhpbilkhdfhaaDoor
namespace Go.Proofs.YtalhpbilkhdfhaaDoor
open Go Go.RowKit Nv
open Go.Proofs.YtalhpbilkhdfhaaDoorW.PrintWords (Kd)
open XBn
set_option maxRecDepth 100000
set_option linter.unusedSimpArgs false
set_option maxHeartbeats 1600000 in
theorem u64_c {w:World} {x:Nat} {v:Int} (hx:IntAt w x v):Calls Tryd.prog 51 #[pt x] w fun e w'=>e=.returned (.int .u64 ((v.natAbs % 18446744073709551616:Nat):Int))∧w=w':=by
  obtain ⟨xg,xs,a,hx⟩:=hx.rd
  have hab:=hx.abs
  have c1:=hx.blk.c1
  obtain ⟨A,c,l,rfl,hl,hN,hn,hC⟩:=hx.wd.cells
  have ev:v.natAbs=nN l:=by unfold nN;rw [hn];omega
  have hD:=hN.1
  rw [ev]
  clear hx hab ev hN hn
  rcases l with _|⟨p,_|⟨q,r⟩⟩
  · have R:Hid (nN ([]:List Int) % 18446744073709551616=0):=Lib.hid (by unfold nN;rw [nv_nil];rfl)
    rw [R.out]
    clear hD hC hl
    go_enter Tryd.func51,Tryd.ntmps51
    go_wp2
    go_ret
    exact ⟨rfl,rfl⟩
  · obtain ⟨ad,rfl,hcell⟩:=hC (by simp)
    have q0:=hcell 0 (by simp)
    rw [show ad.add 0=ad by simp [Addr.add]] at q0
    have d0:=(Dg.cons.1 hD).1
    have R:Hid (((nN [p] % 18446744073709551616:Nat):Int)=p):=Lib.hid (by rw [nN_cons hD,show nN ([]:List Int)=0 by unfold nN;rw [nv_nil];rfl];omega)
    rw [R.out]
    have wp:IntKind.u64.wrap p=p:=by rw [IntKind.wrap_u64];omega
    simp only [List.getElem_cons_zero] at q0
    clear hD hC hl hcell d0
    go_enter Tryd.func51,Tryd.ntmps51
    go_wp2
    go_ret
    exact ⟨ret_int (by first|rfl|exact wp),rfl⟩
  · obtain ⟨ad,rfl,hcell⟩:=hC (by simp)
    have q0:=hcell 0 (by simp)
    rw [show ad.add 0=ad by simp [Addr.add]] at q0
    have q1:=hcell 1 (by simp)
    have d0:=(Dg.cons.1 hD).1
    have d1:=(Dg.cons.1 (Dg.cons.1 hD).2).1
    simp only [List.getElem_cons_zero,List.getElem_cons_succ] at q0 q1
    obtain ⟨P,hP⟩:∃ P:Nat,p=(P:Int):=⟨p.toNat,(Int.toNat_of_nonneg d0.1).symm⟩
    obtain ⟨Q,hQ⟩:∃ Q:Nat,q=(Q:Int):=⟨q.toNat,(Int.toNat_of_nonneg d1.1).symm⟩
    have R:Hid (nN (p :: q :: r) % 18446744073709551616=P + 4294967296 * Q):=Lib.hid (by rw [nN_cons hD,nN_cons (Dg.cons.1 hD).2,hP,hQ];simp only [Int.toNat_natCast];omega)
    rw [R.out]
    have O:=or64 P Q (by omega) (by omega)
    have wp:IntKind.u64.wrap (P:Int)=(P:Int):=by rw [IntKind.wrap_u64];omega
    have wq:IntKind.u64.wrap (Q:Int)=(Q:Int):=by rw [IntKind.wrap_u64];omega
    rw [hP] at q0
    rw [hQ] at q1
    simp [Addr.add] at q1
    have HO:=Lib.hid O
    have ln:((p :: q :: r).length:Int)=(r.length:Int) + 2:=by simp;omega
    have k1:decide ((0:Int) < ((p :: q :: r).length:Int))=true:=decide_eq_true (by omega)
    have k2:decide ((1:Int) < ((p :: q :: r).length:Int))=true:=decide_eq_true (by omega)
    obtain ⟨n,hn⟩:∃ n,(p :: q :: r).length=n:=⟨_,rfl⟩
    rw [hn] at c1 k1 k2 ln
    have b0:(0:Int) < (n:Int):=by omega
    have b1:(1:Int) < (n:Int):=by omega
    have b2:1 < n:=by omega
    have b3:0 < n:=by omega
    clear hD hC hl hcell d0 d1 hP hQ O ln hn
    go_enter Tryd.func51,Tryd.ntmps51
    go_wp2
    go_ret
    exact ⟨ret_int (by rw [← HO.out,wq,wp]),rfl⟩
end Go.Proofs.YtalhpbilkhdfhaaDoor
