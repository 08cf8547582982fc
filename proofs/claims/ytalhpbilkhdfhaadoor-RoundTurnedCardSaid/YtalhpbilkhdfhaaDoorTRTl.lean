import Derived.Test.YtalhpbilkhdfhaaDoorTRTk
namespace Go.Proofs.YtalhpbilkhdfhaaDoor
open Go Go.RowKit Nv GFl
open Go.Proofs.YtalhpbilkhdfhaaDoorW.PrintWords (Kd own_move own_ne own_lt own_base own_typed)
open XBn
set_option maxRecDepth 100000
set_option linter.unusedSimpArgs false
structure IsMade (k:Nat) (v exp:Int) (g:Bool) (m:Nat) (x:Int):Prop where
  r:DR k g m x
  z:v=0→m=0
  n:v ≠ 0→m ≠ 0∧exp≤x∧x≤exp + 64 * k∧sg g m * ((p2 (x - exp).toNat:Nat):Int)=v
  o:v.natAbs % 2=1→x=exp
theorem sg_nat (v:Int):sg (decide (v < 0)) v.natAbs=v:=by
  unfold sg
  by_cases h:v < 0
  · rw [decide_eq_true h];simp only [if_true];omega
  · rw [decide_eq_false h];simp only [Bool.false_eq_true,if_false];omega
theorem sg_mulr (g:Bool) (m c:Int):sg g (m * c)=sg g m * c:=by cases g <;> simp [sg,Int.neg_mul]
theorem sg_zero (g:Bool):sg g 0=0:=by cases g <;> rfl
theorem dy_nil (w:World):Dy w (.agg #[.bool false,.slice none 0 0,.int .i64 0]) false 0 0:=⟨none,0,by rw [lbs_zero];rfl,by rw [lbs_zero];decide,by rw [lbs_zero];exact ⟨rfl,by decide,fun h=>absurd h (by decide)⟩⟩
def MadePost (k:Nat) (v exp:Int) (w:World) (e:Ending) (w':World):Prop:=∃ d g m x,e=.returned (.tuple #[d,.int .i64 0])∧Dy w' d g m x∧IsMade k v exp g m x∧Below w.heap.size w w'
theorem ymade_c {W:World} {b k:Nat} {v exp:Int} (hx:IntAt W b v) (hs:v.natAbs < 2 ^ (64 * k)) (hk:k≤256) (he1:-13000≤exp) (he2:exp≤13000) :
    Calls Tryd.prog 45 #[pt b,.int .i64 exp] W (MadePost k v exp W):=by
  by_cases h0:v=0
  · subst h0
    refine (made_z hx).mono ?_
    rintro e w' ⟨rfl,hb⟩
    exact ⟨_,false,0,0,rfl,dy_nil w',⟨⟨fun _=>⟨rfl,rfl⟩,fun h=>absurd rfl h,Nat.two_pow_pos _,hk,by decide,by decide⟩,fun _=>rfl,fun h=>absurd rfl h,fun h=>by simp at h⟩,hb⟩
  · refine (made_g hx h0 hs hk (by omega) (by omega)).mono ?_
    rintro e w' ⟨n,vv,ht,rfl,ho,hb⟩
    have hn:n≤64 * k:=by
      have h1:2 ^ n≤v.natAbs:=by
        have h2:=ht.1
        have h3:=ht.2
        have h4:2 ^ n * 1≤2 ^ n * (v.natAbs / 2 ^ n):=Nat.mul_le_mul_left _ (Nat.pos_of_ne_zero (fun e=>by rw [e] at h3;cases h3))
        rwa [Nat.mul_one,← h2] at h4
      exact Nat.le_of_lt ((Nat.pow_lt_pow_iff_right (a:=2) (by decide)).1 (Nat.lt_of_le_of_lt h1 hs))
    refine ⟨_,decide (v < 0),v.natAbs / 2 ^ n,exp + n,rfl,dy_own ho,⟨⟨fun e=>?_,fun _=>ht.2,Nat.lt_of_le_of_lt (Nat.div_le_self ..) hs,hk,by omega,by omega⟩,fun e=>absurd e h0,fun _=>⟨fun e=>?_,by omega,by omega,?_⟩,fun h=>?_⟩,hb⟩
    · have:=ht.2;omega
    · have:=ht.2;omega
    · rw [← sg_mulr,← Int.natCast_mul,p2_def,show (exp + (n:Int) - exp).toNat=n by omega,Nat.mul_comm,← ht.1,sg_nat]
    · rw [tz_odd ht h];simp
def YS (w:World) (d:Value) (k K:Nat) (E:Int) (z:Int):Prop:=∃ g m x,Dy w d g m x∧DR k g m x∧-(K:Int)≤x∧x≤E∧sg g m * ((p2 (x + K).toNat:Nat):Int)=z
theorem YS.below {w w':World} {d:Value} {k K:Nat} {E z:Int} (h:YS w d k K E z) (hb:Below w.heap.size w w'):YS w' d k K E z:=by
  obtain ⟨g,m,x,h1,h2⟩:=h
  exact ⟨g,m,x,h1.below hb,h2⟩
theorem fdy_ys {w:World} {d:Value} {x:Nat} {g:Bool} {m:Nat} {y:Int} (h:Dy w d g m y) (f:FDy x g m y):YS w d 1 1074 1023 (val x):=⟨g,m,y,h,f.r,f.lo,f.hi,f.v⟩
theorem yk_at {w:World} {A:Option Addr} {l:List Int} (h:Kd.C (Kd.int .u64) w A l.length l) {i:Nat} (hi:i < l.length):∃ ad,A=some ad∧w.cell? (ad.add i)=some (.int .u64 l[i]):=by
  obtain ⟨ad,e,hc⟩:=h.2.2 (by omega)
  obtain ⟨cs,_,hK,hcs⟩:=hc i _ (List.getElem?_eq_getElem hi)
  have hK:cs=[.int .u64 l[i]]:=hK
  subst hK
  have:=hcs 0 _ rfl
  rw [show (Kd.int .u64).sz=1 from rfl] at this
  exact ⟨ad,e,by simpa using this⟩
theorem yk_mk {w:World} {A:Option Addr} {l:List Int} (hl:l.length≤9223372036854775807) (h:0 < l.length→∃ ad,A=some ad∧∀ i (hi:i < l.length),w.cell? (ad.add i)=some (.int .u64 l[i])):Kd.C (Kd.int .u64) w A l.length l:=by
  refine ⟨rfl,hl,fun h0=>?_⟩
  obtain ⟨ad,e,hc⟩:=h h0
  refine ⟨ad,e,fun j p hp=>⟨[.int .u64 p],rfl,rfl,fun i u hu=>?_⟩⟩
  have hj:=(List.getElem?_eq_some_iff.1 hp).1
  have hv:=(List.getElem?_eq_some_iff.1 hp).2
  have hi:i=0:=by have:=(List.getElem?_eq_some_iff.1 hu).1;simpa using this
  subst hi
  have:u=.int .u64 p:=by simpa using hu.symm
  rw [this,show (Kd.int .u64).sz=1 from rfl,Nat.mul_one,Nat.add_zero,← hv]
  exact hc j hj
theorem Dy.setc {w:World} {d:Value} {g:Bool} {m:Nat} {x:Int} (h:Dy w d g m x) {p:Addr} {c:Value} (hp:w.cell? p=some c) (hc:∀ z,c ≠ .int .u64 z) (u:Value):Dy (w.setCell p u) d g m x:=by
  obtain ⟨A,c',rfl,hl,hC⟩:=h
  refine ⟨A,c',rfl,hl,yk_mk hC.2.1 (fun h0=>?_)⟩
  obtain ⟨ad,e,_⟩:=yk_at hC h0
  refine ⟨ad,e,fun i hi=>?_⟩
  obtain ⟨ad',e',hx⟩:=yk_at hC hi
  rw [e] at e'
  injection e' with e'
  subst e'
  have hne:p ≠ ad.add i:=fun e=>by rw [e,hx] at hp;injection hp with hp;exact hc _ hp.symm
  exact (World.cell?_setCell_other _ _ _ _ hne).trans hx
theorem Dy.set3 {w:World} {b n c:Nat} {d:Value} {A:Option Addr} {g g0 G:Bool} {m:Nat} {x x0 X:Int} {v0:Value} (h:Dy w d g m x) (hb:w.heap[b]?=some (.cells #[.bool g0,v0,.int .i64 x0] 44 (0,0))) (hv:∀ z,v0 ≠ .int .u64 z):Dy (((w.setCell ⟨b,0,none⟩ (.bool G)).setCell ⟨b,1,none⟩ (.slice A n c)).setCell ⟨b,2,none⟩ (.int .i64 X)) d g m x:=by
  have y0:=rw_setc hb 0 (.bool G)
  have y1:=rw_setc y0 1 (.slice A n c)
  exact ((h.setc (kb_cell hb (i:=0) rfl) (fun z h=>by cases h) _).setc (kb_cell y0 (i:=1) rfl) hv _).setc (kb_cell y1 (i:=2) rfl) (fun z h=>by cases h) _
theorem two_y0 (w:World) (o o' o'':Obj):(((w.alloc o).alloc o').alloc o'').heap[w.heap.size]?=some o:=kb_alloc (kb_alloc (kb_new (Below.refl _ _)))
theorem two_y1 (w:World) (o o' o'':Obj):(((w.alloc o).alloc o').alloc o'').heap[w.heap.size + 1]?=some o':=kb_alloc (two_y w o o')
theorem two_y2 (w:World) (o o' o'':Obj):(((w.alloc o).alloc o').alloc o'').heap[w.heap.size + 1 + 1]?=some o'':=by
  have:=kb_new (w:=(w.alloc o).alloc o') (o:=o'') (Below.refl _ _)
  simpa using this
structure YX (W w:World) (h:Nat) (c0 c1:Array Value):Prop where
  b:Below W.heap.size W w
  g:W.heap.size≤h
  k0:w.heap[h]?=some (.cells c0 44 (0,0))
  k1:w.heap[h + 1]?=some (.cells c1 44 (0,0))
  k2:w.heap[h + 1 + 1]?=some nilD
theorem YX.then {W w w':World} {h:Nat} {c0 c1:Array Value} (k:YX W w h c0 c1) (hb:Below w.heap.size w w'):YX W w' h c0 c1:=⟨bl_then k.b hb,k.g,kb_keep hb k.k0,kb_keep hb k.k1,kb_keep hb k.k2⟩
theorem YX.drew {W w:World} {h:Nat} {c0 c1:Array Value} (k:YX W w h c0 c1):YX W w.drew h c0 c1:=⟨bl_drew k.b,k.g,k.k0,k.k1,k.k2⟩
theorem YX.bz {W w w':World} {h z:Nat} {c0 c1:Array Value} (k:YX W w h c0 c1) (hz:Bz z w w') (hn:h + 1 + 1 < z):YX W w' h c0 c1 :=
  ⟨Bz.below k.b hz k.b.size (by have:=k.g;omega),k.g,(hz.block h (kb_lt k.k0) (by omega)).trans k.k0,(hz.block (h + 1) (kb_lt k.k1) (by omega)).trans k.k1,(hz.block (h + 1 + 1) (kb_lt k.k2) (by omega)).trans k.k2⟩
theorem yx_new (W:World) (c0 c1:Array Value):YX W (((W.alloc (.cells c0 44)).alloc (.cells c1 44)).alloc nilD) W.heap.size c0 c1 :=
  ⟨bl_alloc (bl_alloc (bl_alloc (Below.refl _ _) _) _) _,Nat.le_refl _,two_y0 _ _ _ _,two_y1 _ _ _ _,two_y2 _ _ _ _⟩
set_option maxHeartbeats 8000000 in
theorem ymul1 {k l:Nat} {g g':Bool} {m m':Nat} {x x':Int} {d d':Value} {W:World} (h:Dy W d g m x) (r:DR k g m x) (h':Dy W d' g' m' x') (r':DR l g' m' x') (hk:k + l≤256) (he1:-13000≤x + x') (he2:x + x'≤13000) :
    Calls Tryd.prog 40 #[d,d'] W (MadePost (k + l) (sg g m * sg g' m') (x + x') W):=by
  have BC:Hid (∀ w,Below W.heap.size W w→Calls Tryd.prog 42 #[d,d'] w fun e w'=>e=.returned (.bool true)∧Below w.heap.size w w'):=Lib.hid (fun w hb=>yboth_c (h.below hb) r (h'.below hb) r')
  have WX:Hid (∀ w,Below W.heap.size W w→Calls Tryd.prog 43 #[d] w fun e w'=>∃ b,e=.returned (pt b)∧w.heap.size≤b∧IntAt w' b (sg g m)∧Below w.heap.size w w'):=Lib.hid (fun w hb=>ywhole_c (h.below hb) r)
  have WY:Hid (∀ w,Below W.heap.size W w→Calls Tryd.prog 43 #[d'] w fun e w'=>∃ b,e=.returned (pt b)∧w.heap.size≤b∧IntAt w' b (sg g' m')∧Below w.heap.size w w'):=Lib.hid (fun w hb=>ywhole_c (h'.below hb) r')
  have a1:(sg g m).natAbs=m:=by cases g <;> simp [sg]
  have a2:(sg g' m').natAbs=m':=by cases g' <;> simp [sg]
  have a3:(sg g m * sg g' m').natAbs < 2 ^ (64 * (k + l)):=by
    rw [Int.natAbs_mul,a1,a2,Nat.mul_add,Nat.pow_add]
    exact Nat.mul_lt_mul_of_lt_of_lt r.l r'.l
  obtain ⟨u,hu⟩:∃ u:Int,sg g m=u:=⟨_,rfl⟩
  obtain ⟨t,ht⟩:∃ t:Int,sg g' m'=t:=⟨_,rfl⟩
  rw [hu] at WX a1 a3 ⊢
  rw [ht] at WY a2 a3 ⊢
  have MU:Hid (∀ w b c,IntAt w b u→IntAt w c t→Calls Tryd.prog 60 #[pt b,pt b,pt c] w (GPost b (u * t) w)):=Lib.hid (fun w b c h1 h2=>mul_c h1 h1 h2 (by rw [a1];exact r.sm) (by rw [a2];exact r'.sm))
  have MD:Hid (∀ w b,IntAt w b (u * t)→Calls Tryd.prog 45 #[pt b,.int .i64 (x + x')] w (MadePost (k + l) (u * t) (x + x') w)):=Lib.hid (fun w b h1=>ymade_c h1 a3 hk he1 he2)
  have wx:wrap64 (x + x')=x + x':=by unfold wrap64;omega
  have wx2:IntKind.i64.wrap (x + x')=x + x':=by clear wx;rw [IntKind.wrap_i64];omega
  obtain ⟨X,hX⟩:∃ X,x + x'=X:=⟨_,rfl⟩
  rw [hX] at MD wx wx2 ⊢
  obtain ⟨A,c,rfl,_⟩:=h
  obtain ⟨A',c',rfl,_⟩:=h'
  clear r r' hk he1 he2 a1 a2 a3 hu ht
  obtain ⟨n,hn⟩:∃ n,(lbs m).length=n:=⟨_,rfl⟩
  obtain ⟨n',hn'⟩:∃ n,(lbs m').length=n:=⟨_,rfl⟩
  rw [hn] at BC WX ⊢
  rw [hn'] at BC WY ⊢
  clear hn hn'
  have Y0:=Lib.hid (yx_new W #[.bool g,.slice A n c,.int .i64 x] #[.bool g',.slice A' n' c',.int .i64 x'])
  have d0:=kb_cell Y0.out.k0 (i:=0) rfl
  have d1:=kb_cell Y0.out.k0 (i:=1) rfl
  have d2:=kb_cell Y0.out.k0 (i:=2) rfl
  have e0:=kb_cell Y0.out.k1 (i:=0) rfl
  have e1:=kb_cell Y0.out.k1 (i:=1) rfl
  have e2:=kb_cell Y0.out.k1 (i:=2) rfl
  go_enter Tryd.func40,Tryd.ntmps40
  go_upto_region 4 with (first
    | (go_at_call 42;(with_reducible refine (BC.out _ Y0.out.b).mono ?_);rintro e w1 ⟨rfl,hb⟩;have Y1:=Lib.hid (Y0.out.then hb);clear d0 d1 d2 e0 e1 e2;have d0:=kb_cell Y1.out.k0 (i:=0) rfl;have d1:=kb_cell Y1.out.k0 (i:=1) rfl;have d2:=kb_cell Y1.out.k0 (i:=2) rfl;clear hb)
    | (go_at_call 43;(with_reducible refine (WX.out _ Y1.out.b).mono ?_);rintro e w2 ⟨b,rfl,hbs,hI,hb⟩;have IX:=Lib.hid hI;have NB:=Lib.hid (show W.heap.size + 1 + 1 < b by have:=kb_lt Y1.out.k2;omega);have Y2:=Lib.hid (Y1.out.then hb);clear hI hb hbs))
  clear d0 d1 d2
  have hS:w2.drew.cell? ⟨W.heap.size,2,none⟩=some (.int .i64 x)∧w2.drew.cell? ⟨W.heap.size + 1,0,none⟩=some (.bool g')∧w2.drew.cell? ⟨W.heap.size + 1,1,none⟩=some (.slice A' n' c')∧w2.drew.cell? ⟨W.heap.size + 1,2,none⟩=some (.int .i64 x'):=⟨kb_cell Y2.out.drew.k0 (i:=2) rfl,kb_cell Y2.out.drew.k1 (i:=0) rfl,kb_cell Y2.out.drew.k1 (i:=1) rfl,kb_cell Y2.out.drew.k1 (i:=2) rfl⟩
  refine wp_region_G (g:=10) (S:=fun w'=>w'.cell? ⟨W.heap.size,2,none⟩=some (.int .i64 x)∧w'.cell? ⟨W.heap.size + 1,0,none⟩=some (.bool g')∧w'.cell? ⟨W.heap.size + 1,1,none⟩=some (.slice A' n' c')∧w'.cell? ⟨W.heap.size + 1,2,none⟩=some (.int .i64 x')) (by kernel_rfl) ?_
  have Y3:=Lib.hid Y2.out.drew
  have I3:=Lib.hid IX.out.drew
  obtain ⟨w3,hw3⟩:∃ w,w2.drew=w:=⟨_,rfl⟩
  rw [hw3] at hS Y3 I3
  rw [hw3]
  clear hw3
  (refine wpG_take (i:=0) (v:=?_) rfl rfl (by kernel_rfl) (by kernel_rfl) (by kernel_rfl) (fun _ _ _ h=>h) (Or.inl ⟨by rfl,fun w=>?_⟩) (Or.inr hS) ?_;rotate_left;focus (go_simp;first|done|with_reducible rfl|exact rfl));(try simp only [Act.put,zA,zB,zC,zD,zE,zF]);(refine wpG_take (i:=1) (v:=?_) rfl rfl (by kernel_rfl) (by kernel_rfl) (by kernel_rfl) (fun _ _ _ h=>h) (Or.inl ⟨by rfl,fun w=>?_⟩) (Or.inr hS) ?_;rotate_left;focus (go_simp;first|done|with_reducible rfl|exact rfl));(try simp only [Act.put,zA,zB,zC,zD,zE,zF])
  (refine wpG_ldC (i:=2) [3,4,10] (v:=?_) rfl rfl (by kernel_rfl) (by kernel_rfl) (by kernel_rfl) (by kernel_rfl) (fun _ _ _ h=>h) (Or.inl ⟨by rfl,?_⟩) hS ?_;rotate_left;focus (intro w hSw;(try dsimp only at hSw);go_simp;first|done|with_reducible rfl|exact rfl));(try simp only [Act.put,zA,zB,zC,zD,zE,zF])
  (refine wpG_take (i:=5) (v:=?_) rfl rfl (by kernel_rfl) (by kernel_rfl) (by kernel_rfl) (fun _ _ _ h=>h) (Or.inl ⟨by rfl,fun w=>?_⟩) (Or.inr hS) ?_;rotate_left;focus (go_simp;first|done|with_reducible rfl|exact rfl));(try simp only [Act.put,zA,zB,zC,zD,zE,zF])
  (refine wpG_ldC (i:=6) [9,10] (v:=?_) rfl rfl (by kernel_rfl) (by kernel_rfl) (by kernel_rfl) (by kernel_rfl) (fun _ _ _ h=>h) (Or.inl ⟨by rfl,?_⟩) hS ?_;rotate_left;focus (intro w hSw;(try dsimp only at hSw);go_simp;first|done|with_reducible rfl|exact rfl));(try simp only [Act.put,zA,zB,zC,zD,zE,zF])
  (refine wpG_take (i:=7) (v:=?_) rfl rfl (by kernel_rfl) (by kernel_rfl) (by kernel_rfl) (fun _ _ _ h=>h) (Or.inl ⟨by rfl,fun w=>?_⟩) (Or.inr hS) ?_;rotate_left;focus (go_simp;first|done|with_reducible rfl|exact rfl));(try simp only [Act.put,zA,zB,zC,zD,zE,zF])
  (refine wpG_ldC (i:=8) [9,10] (v:=?_) rfl rfl (by kernel_rfl) (by kernel_rfl) (by kernel_rfl) (by kernel_rfl) (fun _ _ _ h=>h) (Or.inl ⟨by rfl,?_⟩) hS ?_;rotate_left;focus (intro w hSw;(try dsimp only at hSw);go_simp;first|done|with_reducible rfl|exact rfl));(try simp only [Act.put,zA,zB,zC,zD,zE,zF])
  (refine wpG_take (i:=9) (v:=?_) rfl rfl (by kernel_rfl) (by kernel_rfl) (by kernel_rfl) (fun _ _ _ h=>h) (Or.inl ⟨by rfl,fun w=>?_⟩) (Or.inr hS) ?_;rotate_left;focus (go_simp;first|done|with_reducible rfl|exact rfl));(try simp only [Act.put,zA,zB,zC,zD,zE,zF])
  refine wpG_one (i:=3) (by kernel_rfl) rfl (fun K hK=>?_);have HK:=Lib.hid hK;clear hK
  go_simp
  (with_reducible refine (WY.out _ Y3.out.b).mono ?_)
  rintro e w4 ⟨b',rfl,hbs,hI,hb⟩
  have J4:=Lib.hid hI
  have I4:=Lib.hid (I3.out.below hb)
  have Y4:=Lib.hid (Y3.out.then hb)
  have NE:=Lib.hid (show b' ≠ b by have:=I3.out.lt;omega)
  refine HK.out _ _ (Or.inr ⟨kb_cell Y4.out.k0 (i:=2) rfl,kb_cell Y4.out.k1 (i:=0) rfl,kb_cell Y4.out.k1 (i:=1) rfl,kb_cell Y4.out.k1 (i:=2) rfl⟩) ?_
  clear hI hb hbs HK K
  (try simp only [Act.put,zA,zB,zC,zD,zE,zF])
  refine wpG_one (i:=4) (by kernel_rfl) rfl (fun K hK=>?_);have HK:=Lib.hid hK;clear hK
  go_simp
  (with_reducible refine (MU.out _ _ _ I4.out J4.out).mono ?_)
  rintro e w5 ⟨rfl,hI,hz⟩
  have I5:=Lib.hid hI
  have Y5:=Lib.hid (Y4.out.bz hz NB.out)
  refine HK.out _ _ (Or.inr ⟨kb_cell Y5.out.k0 (i:=2) rfl,kb_cell Y5.out.k1 (i:=0) rfl,kb_cell Y5.out.k1 (i:=1) rfl,kb_cell Y5.out.k1 (i:=2) rfl⟩) ?_
  clear hI hz HK K
  (try simp only [Act.put,zA,zB,zC,zD,zE,zF])
  refine wpG_one (i:=10) (by kernel_rfl) rfl (fun K hK=>?_);have HK:=Lib.hid hK;clear hK
  go_simp
  (with_reducible refine (MD.out _ _ I5.out).mono ?_)
  rintro e w6 ⟨dd,G,M,XX,rfl,hD,hM,hb⟩
  obtain ⟨AA,cc,rfl,hlc,hC⟩:=hD
  have D6:=Lib.hid (show Dy w6 (.agg #[.bool G,.slice AA (lbs M).length cc,.int .i64 XX]) G M XX from ⟨AA,cc,rfl,hlc,hC⟩)
  have IM:=Lib.hid hM
  have Y6:=Lib.hid (Y5.out.then hb)
  obtain ⟨N,hN⟩:∃ N,(lbs M).length=N:=⟨_,rfl⟩
  rw [hN] at D6
  simp only [hN]
  clear hlc hC hM hb hN
  refine HK.out _ _ (Or.inl (by kernel_rfl)) ?_
  clear HK K
  (try simp only [Act.put,zA,zB,zC,zD,zE,zF])
  have f0:=kb_frozen Y6.out.k2 0
  have f1:=kb_frozen Y6.out.k2 1
  have f2:=kb_frozen Y6.out.k2 2
  have g0:=kb_cell Y6.out.k2 (i:=0) rfl
  have g1:=kb_cell Y6.out.k2 (i:=1) rfl
  have g2:=kb_cell Y6.out.k2 (i:=2) rfl
  (refine wpG_take (i:=11) (v:=?_) rfl rfl (by kernel_rfl) (by kernel_rfl) (by kernel_rfl) (fun _ _ _ h=>h) (Or.inl ⟨by rfl,fun w=>?_⟩) (Or.inl (by kernel_rfl)) ?_;rotate_left;focus (go_simp;first|done|with_reducible rfl|exact rfl));(try simp only [Act.put,zA,zB,zC,zD,zE,zF]);(refine wpG_take (i:=12) (v:=?_) rfl rfl (by kernel_rfl) (by kernel_rfl) (by kernel_rfl) (fun _ _ _ h=>h) (Or.inl ⟨by rfl,fun w=>?_⟩) (Or.inl (by kernel_rfl)) ?_;rotate_left;focus (go_simp;first|done|with_reducible rfl|exact rfl));(try simp only [Act.put,zA,zB,zC,zD,zE,zF])
  refine wpG_one (i:=13) (by kernel_rfl) rfl (fun K hK=>?_);have HK:=Lib.hid hK;clear hK;go_simp;refine HK.out _ _ (Or.inl (by kernel_rfl)) ?_;clear HK K;(try simp only [Act.put,zA,zB,zC,zD,zE,zF])
  refine wpG_one (i:=14) (by kernel_rfl) rfl (fun K hK=>?_);have HK:=Lib.hid hK;clear hK;go_simp;refine HK.out _ _ (Or.inl (by kernel_rfl)) ?_;clear HK K;(try simp only [Act.put,zA,zB,zC,zD,zE,zF])
  refine wpG_done (by kernel_rfl) ?_ _
  go_wp2
  have y0:=rw_setc Y6.out.k2 0 (.bool G)
  have y1:=rw_setc y0 1 (.slice AA N cc)
  have y2:=rw_setc y1 2 (.int .i64 XX)
  have z0:=kb_cell y2 (i:=0) rfl
  have z1:=kb_cell y2 (i:=1) rfl
  have z2:=kb_cell y2 (i:=2) rfl
  refine bodyPost_ret (v:=.tuple #[.agg #[.bool G,.slice AA N cc,.int .i64 XX],.int .i64 0]) (by simp [results,Tryd.results40,go_sem,z0,z1,z2]) rfl ?_
  have hW:W.heap.size≤W.heap.size + 1 + 1:=by omega
  exact ⟨_,G,M,XX,rfl,D6.out.set3 Y6.out.k2 (fun z h=>by cases h),IM.out,bl_set (bl_set (bl_set Y6.out.b _ hW) _ hW) _ hW⟩
end Go.Proofs.YtalhpbilkhdfhaaDoor
namespace Go.Proofs.YtalhpbilkhdfhaaDoor
open Go Go.RowKit Nv GFl
open Go.Proofs.YtalhpbilkhdfhaaDoorW.PrintWords (Kd own_move own_ne own_lt own_base own_typed)
open XBn
set_option maxRecDepth 100000
set_option linter.unusedSimpArgs false
def YPost (k K:Nat) (E z:Int) (w:World) (e:Ending) (w':World):Prop:=∃ d,e=.returned (.tuple #[d,.int .i64 0])∧YS w' d k K E z∧Below w.heap.size w w'
theorem ymul_s {W:World} {u v:Value} {k l K K':Nat} {E E' z z':Int} (h:YS W u k K E z) (h':YS W v l K' E' z') (hk:k + l≤256) (hK:K + K'≤13000) (hE:E + E'≤13000) (hE0:0≤E + E') :
    Calls Tryd.prog 40 #[u,v] W (YPost (k + l) (K + K') (E + E') (z * z') W):=by
  obtain ⟨g,m,x,h1,r,h2,h3,h4⟩:=h
  obtain ⟨g',m',x',j1,r',j2,j3,j4⟩:=h'
  refine (ymul1 h1 r j1 r' hk (by omega) (by omega)).mono ?_
  rintro e w' ⟨d,G,M,X,rfl,hd,hm,hb⟩
  refine ⟨d,rfl,⟨G,M,X,hd,hm.r,?_⟩,hb⟩
  by_cases h0:sg g m * sg g' m'=0
  · have e1:=hm.z h0
    obtain ⟨e2,e3⟩:=hm.r.z e1
    refine ⟨by omega,by omega,?_⟩
    have e4:z * z'=0:=by
      rw [← h4,← j4]
      have:sg g m * ((p2 (x + K).toNat:Nat):Int) * (sg g' m' * ((p2 (x' + K').toNat:Nat):Int))=sg g m * sg g' m' * (((p2 (x + K).toNat:Nat):Int) * ((p2 (x' + K').toNat:Nat):Int)):=by ac_rfl
      rw [this,h0,Int.zero_mul]
    rw [e4,e1,Int.natCast_zero,sg_zero,Int.zero_mul]
  · obtain ⟨n1,n2,_,n4⟩:=hm.n h0
    have q1:m ≠ 0:=fun e=>h0 (by rw [e,Int.natCast_zero,sg_zero,Int.zero_mul])
    have q2:m' ≠ 0:=fun e=>h0 (by rw [e,Int.natCast_zero,sg_zero,Int.mul_zero])
    have a1:(sg g m).natAbs=m:=by cases g <;> simp [sg]
    have a2:(sg g' m').natAbs=m':=by cases g' <;> simp [sg]
    have e1:=hm.o (by rw [Int.natAbs_mul,a1,a2,Nat.mul_mod,r.o q1,r'.o q2])
    refine ⟨by omega,by omega,?_⟩
    rw [e1,Int.sub_self] at n4
    have e5:sg G M=sg g m * sg g' m':=by rw [← n4];show _=sg G M * ((p2 0:Nat):Int);rw [p2_zero];simp
    rw [e5,← h4,← j4,e1,show (x + x' + ((K + K':Nat):Int)).toNat=(x + K).toNat + (x' + K').toNat by omega,p2_add,Int.natCast_mul]
    ac_rfl
set_option maxHeartbeats 1000000 in
theorem ysign_c {k:Nat} {g:Bool} {m:Nat} {x:Int} {d:Value} {W:World} (h:Dy W d g m x) (r:DR k g m x):Calls Tryd.prog 30 #[d] W fun e w'=>e=.returned (.tuple #[.int .i64 (sgnI (sg g m)),.int .i64 0])∧Below W.heap.size W w':=by
  have RC:Hid (∀ w,Below W.heap.size W w→Calls Tryd.prog 48 #[d] w fun e w'=>e=.returned (.bool true)∧Below w.heap.size w w'):=Lib.hid (fun w hb=>yright_c (h.below hb) r)
  have SV:Hid (sgnI (sg g m)=if m=0 then 0 else if g=true then -1 else 1):=Lib.hid (by
    unfold sgnI sg
    by_cases h0:m=0
    · subst h0;cases g <;> simp
    · cases g
      · simp only [Bool.false_eq_true,if_false];rw [if_neg (by omega),if_pos (by omega),if_neg h0]
      · simp only [if_true];rw [if_pos (by omega),if_neg h0])
  have L0:=lbs_nil (m:=m)
  obtain ⟨A,c,rfl,_⟩:=h
  obtain ⟨n,hn⟩:∃ n,(lbs m).length=n:=⟨_,rfl⟩
  rw [hn] at RC L0 ⊢
  clear hn r
  have B0:=Lib.hid (bl_alloc (Below.refl W.heap.size W) (.cells #[.bool g,.slice A n c,.int .i64 x] 44))
  have K0:=Lib.hid (kb_new (w:=W) (o:=.cells #[.bool g,.slice A n c,.int .i64 x] 44) (Below.refl _ _))
  have d0:=kb_cell K0.out (i:=0) rfl
  have d1:=kb_cell K0.out (i:=1) rfl
  have d2:=kb_cell K0.out (i:=2) rfl
  by_cases h0:m=0
  · have e0:n=0:=L0.2 h0
    rw [SV.out,if_pos h0]
    clear SV L0 h0
    subst e0
    go_enter Tryd.func30,Tryd.ntmps30
    go_wp2_with (go_at_call 48;(with_reducible refine (RC.out _ B0.out).mono ?_);rintro e w1 ⟨rfl,hb⟩;have B1:=Lib.hid (bl_then B0.out hb);have K1:=Lib.hid (kb_keep hb K0.out);clear d0 d1 d2;have d0:=kb_cell K1.out (i:=0) rfl;have d1:=kb_cell K1.out (i:=1) rfl;have d2:=kb_cell K1.out (i:=2) rfl;clear hb)
    go_ret2
    exact ⟨rfl,B1.out⟩
  · have e0:((n:Int) == 0)=false:=by rw [beq_eq_false_iff_ne];have:=mt L0.1 h0;omega
    rw [SV.out,if_neg h0]
    clear SV L0 h0
    cases g
    all_goals
      go_enter Tryd.func30,Tryd.ntmps30
      go_wp2_with (go_at_call 48;(with_reducible refine (RC.out _ B0.out).mono ?_);rintro e w1 ⟨rfl,hb⟩;have B1:=Lib.hid (bl_then B0.out hb);have K1:=Lib.hid (kb_keep hb K0.out);clear d0 d1 d2;have d0:=kb_cell K1.out (i:=0) rfl;have d1:=kb_cell K1.out (i:=1) rfl;have d2:=kb_cell K1.out (i:=2) rfl;clear hb)
      go_ret2
      exact ⟨rfl,B1.out⟩
theorem bitLen_bl {p:Nat} (h:p < 18446744073709551616):Lib.bitLen p=bl p:=by
  have key:∀ (f x:Nat),x < 2 ^ f→Lib.bitLenAux f x=bl x:=by
    intro f
    induction f with
    | zero =>
      intro x hx
      have:x=0:=by simpa using hx
      subst this;rfl
    | succ f ih =>
      intro x hx
      unfold Lib.bitLenAux
      by_cases h0:x=0
      · rw [if_pos h0,h0];rfl
      · rw [if_neg h0,ih (x / 2) (by rw [Nat.pow_succ] at hx;omega),bl_pos h0];omega
  exact key 64 p (by simpa using h)
set_option maxHeartbeats 1000000 in
theorem ytop_c {k:Nat} {g:Bool} {m:Nat} {x:Int} {d:Value} {W:World} (h:Dy W d g m x) (r:DR k g m x) (h0:m ≠ 0):Calls Tryd.prog 50 #[d] W fun e w'=>e=.returned (.int .i64 (x + bl m))∧Below W.heap.size W w':=by
  obtain ⟨p,p1,p2,p3,p4⟩:=lbs_top m h0
  have hn0:(lbs m).length ≠ 0:=fun e=>h0 (lbs_nil.1 e)
  have hl:=r.len
  obtain ⟨A,c,rfl,_,hC⟩:=h
  obtain ⟨hlt,hv⟩:=List.getElem?_eq_some_iff.1 p1
  obtain ⟨ad,rfl,hc⟩:=yk_at hC hlt
  rw [hv] at hc
  have LC:Hid (∀ w,Calls Tryd.prog 72 #[.int .u64 (p:Int)] w fun e w'=>e=.returned (.int .i64 (bl p))∧w'=w):=Lib.hid (fun w=>by
    have:=len64_c p p3 w
    rwa [bitLen_bl p3] at this)
  have hbp:bl p≤64:=bl_one p3
  have lo:=r.lo
  have hi:=r.hi
  obtain ⟨n,hn⟩:∃ n,(lbs m).length=n:=⟨_,rfl⟩
  rw [hn] at hc hn0 hl p4 ⊢
  rw [p4]
  obtain ⟨b,hb⟩:∃ b,bl p=b:=⟨_,rfl⟩
  rw [hb] at LC hbp ⊢
  clear p1 p2 p4 hC hlt hv hn hb r
  have B0:=Lib.hid (bl_alloc (Below.refl W.heap.size W) (.cells #[.bool g,.slice (some ad) n c,.int .i64 x] 44))
  have k0:=kb_new (w:=W) (o:=.cells #[.bool g,.slice (some ad) n c,.int .i64 x] 44) (Below.refl _ _)
  have d1:=kb_cell k0 (i:=1) rfl
  have d2:=kb_cell k0 (i:=2) rfl
  have cp:=kb_cX B0.out hc
  have s1:wrap64 ((n:Int) - 1)=((n - 1:Nat):Int):=by unfold wrap64;omega
  have s2:wrap64 (64 * ((n - 1:Nat):Int))=64 * ((n - 1:Nat):Int):=by clear s1;unfold wrap64;omega
  have s3:wrap64 (x + 64 * ((n - 1:Nat):Int))=x + 64 * ((n - 1:Nat):Int):=by clear s1 s2;unfold wrap64;omega
  have s4:wrap64 (x + 64 * ((n - 1:Nat):Int) + (b:Int))=x + (64 * ((n - 1:Nat):Int) + (b:Int)):=by clear s1 s2 s3;unfold wrap64;omega
  have i1:(0:Int)≤((n - 1:Nat):Int):=Int.natCast_nonneg _
  have i2:((n - 1:Nat):Int) < (n:Int):=by clear s1 s2 s3 s4;omega
  have i3:((n - 1:Nat):Int).toNat=n - 1:=Int.toNat_natCast _
  clear hn0 hl lo hi hbp k0 hc
  go_enter Tryd.func50,Tryd.ntmps50
  go_upto_region 2 with (fail)
  go_quiet ((go_at_call 72;exact Calls.quiet_of_same (LC.out _)))
  go_wp2
  go_ret
  exact ⟨ret_int (by simp [s1,s2,s3,s4]),by repeat' (first|(with_reducible exact Below.refl _ _)|(with_reducible refine bl_alloc ?_ _)|(with_reducible refine bl_drewN ?_ _)|(with_reducible refine bl_drew ?_)|(with_reducible refine bl_set ?_ _ (by simp)))⟩
end Go.Proofs.YtalhpbilkhdfhaaDoor
namespace Go.Proofs.YtalhpbilkhdfhaaDoor
open Go Go.RowKit Nv GFl
open Go.Proofs.YtalhpbilkhdfhaaDoorW.PrintWords (Kd own_move own_ne own_lt own_base own_typed)
open XBn
set_option maxRecDepth 100000
set_option linter.unusedSimpArgs false
theorem ret_tup2 {a b:Int} {v:Value} (h:a=b):Ending.returned (.tuple #[.int .i64 a,v])=Ending.returned (.tuple #[.int .i64 b,v]):=by rw [h]
theorem sgnI_mul (u:Int) {p:Int} (hp:0 < p):sgnI (u * p)=sgnI u:=by
  unfold sgnI
  rcases Int.lt_trichotomy u 0 with h|h|h
  · have:=Int.mul_neg_of_neg_of_pos h hp
    rw [if_pos this,if_pos h]
  · subst h;rw [Int.zero_mul]
  · have:=Int.mul_pos h hp
    rw [if_neg (by omega),if_pos this,if_neg (by omega),if_pos h]
theorem cmp_sg {a b:Int} (h:sgnI a ≠ sgnI b):cmpZ a b=if sgnI a < sgnI b then -1 else 1:=by
  unfold cmpZ
  unfold sgnI at *
  rcases Int.lt_trichotomy a 0 with h1|h1|h1 <;> rcases Int.lt_trichotomy b 0 with h2|h2|h2
  all_goals (repeat' split) <;> first|rfl|omega
theorem cmp_zero {a b:Int} (h:sgnI a=sgnI b) (h0:sgnI a=0):cmpZ a b=0:=by
  rw [h0] at h
  unfold sgnI at h h0
  unfold cmpZ
  (repeat' split) <;> (repeat' split at h) <;> (repeat' split at h0) <;> omega
theorem cmp_abs {a b:Int} (h:sgnI a=sgnI b) (hl:a.natAbs < b.natAbs):cmpZ a b=-sgnI a:=by
  unfold sgnI at *
  unfold cmpZ
  rcases Int.lt_trichotomy a 0 with h1|h1|h1 <;> rcases Int.lt_trichotomy b 0 with h2|h2|h2
  all_goals (repeat' split at h) <;> first|omega|((repeat' split) <;> omega)
theorem cmp_abs2 {a b:Int} (h:sgnI a=sgnI b) (hl:b.natAbs < a.natAbs):cmpZ a b=sgnI a:=by
  unfold sgnI at *
  unfold cmpZ
  rcases Int.lt_trichotomy a 0 with h1|h1|h1 <;> rcases Int.lt_trichotomy b 0 with h2|h2|h2
  all_goals (repeat' split at h) <;> first|omega|((repeat' split) <;> omega)
theorem cmp_mul (a b:Int) {p:Int} (hp:0 < p):cmpZ (a * p) (b * p)=cmpZ a b:=by
  unfold cmpZ
  rcases Int.lt_trichotomy a b with h|h|h
  · rw [if_pos h,if_pos (Int.mul_lt_mul_of_pos_right h hp)]
  · subst h;simp
  · have:=Int.mul_lt_mul_of_pos_right h hp
    rw [if_neg (by omega),if_pos this,if_neg (by omega),if_pos h]
theorem p2i (n:Nat):(0:Int) < ((p2 n:Nat):Int):=by have:=p2_pos n;omega
theorem sg_abs (g:Bool) (m:Nat):(sg g m).natAbs=m:=by cases g <;> simp [sg]
theorem top_lt {g g':Bool} {m m' K:Nat} {x x':Int} (h0:m' ≠ 0) (hx:-(K:Int)≤x) (hx':-(K:Int)≤x') (h:x + bl m < x' + bl m'):(sg g m * ((p2 (x + K).toNat:Nat):Int)).natAbs < (sg g' m' * ((p2 (x' + K).toNat:Nat):Int)).natAbs:=by
  rw [Int.natAbs_mul,Int.natAbs_mul,sg_abs,sg_abs,Int.natAbs_natCast,Int.natAbs_natCast]
  have h1:m * p2 (x + K).toNat < p2 (bl m) * p2 (x + K).toNat:=Nat.mul_lt_mul_of_pos_right (by rw [p2_def];exact bl_lt m) (p2_pos _)
  have h2:p2 (bl m' - 1) * p2 (x' + K).toNat≤m' * p2 (x' + K).toNat:=Nat.mul_le_mul_right _ (by rw [p2_def];exact bl_le h0)
  have hb:1≤bl m':=by rw [bl_pos h0];omega
  rw [← p2_add] at h1 h2
  have h3:p2 (bl m + (x + K).toNat)≤p2 (bl m' - 1 + (x' + K).toNat):=p2_le (by omega)
  omega
structure Y2 (W w:World) (h:Nat) (c0 c1:Array Value):Prop where
  b:Below W.heap.size W w
  g:W.heap.size≤h
  k0:w.heap[h]?=some (.cells c0 44 (0,0))
  k1:w.heap[h + 1]?=some (.cells c1 44 (0,0))
theorem Y2.then {W w w':World} {h:Nat} {c0 c1:Array Value} (k:Y2 W w h c0 c1) (hb:Below w.heap.size w w'):Y2 W w' h c0 c1:=⟨bl_then k.b hb,k.g,kb_keep hb k.k0,kb_keep hb k.k1⟩
theorem Y2.drew {W w:World} {h:Nat} {c0 c1:Array Value} (k:Y2 W w h c0 c1):Y2 W w.drew h c0 c1:=⟨bl_drew k.b,k.g,k.k0,k.k1⟩
theorem Y2.bz {W w w':World} {h z:Nat} {c0 c1:Array Value} (k:Y2 W w h c0 c1) (hz:Bz z w w') (hn:h + 1 < z):Y2 W w' h c0 c1 :=
  ⟨Bz.below k.b hz k.b.size (by have:=k.g;omega),k.g,(hz.block h (kb_lt k.k0) (by omega)).trans k.k0,(hz.block (h + 1) (kb_lt k.k1) (by omega)).trans k.k1⟩
theorem y2_new (W:World) (c0 c1:Array Value):Y2 W ((W.alloc (.cells c0 44)).alloc (.cells c1 44)) W.heap.size c0 c1 :=
  ⟨bl_alloc (bl_alloc (Below.refl _ _) _) _,Nat.le_refl _,kb_alloc (kb_new (Below.refl _ _)),two_y _ _ _⟩
set_option maxHeartbeats 8000000 in
theorem ycmp1 {k l K:Nat} {g g':Bool} {m m':Nat} {x x':Int} {d d':Value} {W:World} (h:Dy W d g m x) (r:DR k g m x) (h':Dy W d' g' m' x') (r':DR l g' m' x') (hx:-(K:Int)≤x) (hx':-(K:Int)≤x') :
    Calls Tryd.prog 39 #[d,d'] W fun e w'=>e=.returned (.tuple #[.int .i64 (cmpZ (sg g m * ((p2 (x + K).toNat:Nat):Int)) (sg g' m' * ((p2 (x' + K).toNat:Nat):Int))),.int .i64 0])∧Below W.heap.size W w':=by
  have SA:Hid (∀ w,Below W.heap.size W w→Calls Tryd.prog 30 #[d] w fun e w'=>e=.returned (.tuple #[.int .i64 (sgnI (sg g m)),.int .i64 0])∧Below w.heap.size w w'):=Lib.hid (fun w hb=>ysign_c (h.below hb) r)
  have SB:Hid (∀ w,Below W.heap.size W w→Calls Tryd.prog 30 #[d'] w fun e w'=>e=.returned (.tuple #[.int .i64 (sgnI (sg g' m')),.int .i64 0])∧Below w.heap.size w w'):=Lib.hid (fun w hb=>ysign_c (h'.below hb) r')
  have TA:Hid (m ≠ 0→∀ w,Below W.heap.size W w→Calls Tryd.prog 50 #[d] w fun e w'=>e=.returned (.int .i64 (x + bl m))∧Below w.heap.size w w'):=Lib.hid (fun h0 w hb=>ytop_c (h.below hb) r h0)
  have TB:Hid (m' ≠ 0→∀ w,Below W.heap.size W w→Calls Tryd.prog 50 #[d'] w fun e w'=>e=.returned (.int .i64 (x' + bl m'))∧Below w.heap.size w w'):=Lib.hid (fun h0 w hb=>ytop_c (h'.below hb) r' h0)
  have WX:Hid (∀ w,Below W.heap.size W w→Calls Tryd.prog 43 #[d] w fun e w'=>∃ b,e=.returned (pt b)∧w.heap.size≤b∧IntAt w' b (sg g m)∧Below w.heap.size w w'):=Lib.hid (fun w hb=>ywhole_c (h.below hb) r)
  have WY:Hid (∀ w,Below W.heap.size W w→Calls Tryd.prog 43 #[d'] w fun e w'=>∃ b,e=.returned (pt b)∧w.heap.size≤b∧IntAt w' b (sg g' m')∧Below w.heap.size w w'):=Lib.hid (fun w hb=>ywhole_c (h'.below hb) r')
  have s1:=sgnI_mul (sg g m) (p2i (x + K).toNat)
  have s2:=sgnI_mul (sg g' m') (p2i (x' + K).toNat)
  have z1:sgnI (sg g m) ≠ 0→m ≠ 0:=fun h e=>h (by rw [e];cases g <;> rfl)
  have z2:sgnI (sg g' m') ≠ 0→m' ≠ 0:=fun h e=>h (by rw [e];cases g' <;> rfl)
  have sm1:=r.sm
  have sm2:=r'.sm
  have lo1:=r.lo
  have hi1:=r.hi
  have lo2:=r'.lo
  have hi2:=r'.hi
  have big:Hid (∀ n:Nat,n≤60000→Sm (((sg g m * ((2:Int) ^ n)).natAbs:Nat):Int)):=Lib.hid (fun n hn=>by
    have e:(sg g m * (2:Int) ^ n).natAbs < 2 ^ (64 * (k + 1000)):=by
      rw [Int.natAbs_mul,sg_abs,Int.natAbs_pow,show (2:Int).natAbs=2 from rfl]
      calc m * 2 ^ n < 2 ^ (64 * k) * 2 ^ n:=Nat.mul_lt_mul_of_pos_right r.l (Nat.two_pow_pos _)
        _=2 ^ (64 * k + n):=(Nat.pow_add ..).symm
        _≤2 ^ (64 * (k + 1000)):=Nat.pow_le_pow_right (by decide) (by omega)
    exact sm_pw e (by have:=r.k;omega))
  obtain ⟨A,c,rfl,_⟩:=h
  obtain ⟨A',c',rfl,_⟩:=h'
  clear r r'
  obtain ⟨n,hn⟩:∃ n,(lbs m).length=n:=⟨_,rfl⟩
  obtain ⟨n',hn'⟩:∃ n,(lbs m').length=n:=⟨_,rfl⟩
  rw [hn] at SA TA WX ⊢
  rw [hn'] at SB TB WY ⊢
  clear hn hn'
  have Y0:=Lib.hid (y2_new W #[.bool g,.slice A n c,.int .i64 x] #[.bool g',.slice A' n' c',.int .i64 x'])
  by_cases c1:sgnI (sg g m)=sgnI (sg g' m')
  · by_cases c2:sgnI (sg g m)=0
    · have RS:=Lib.hid (cmp_zero (s1.trans (c1.trans s2.symm)) (s1.trans c2))
      rw [RS.out]
      rw [← c1,c2] at SB
      rw [c2] at SA
      clear s1 s2 z1 z2 c1 c2 RS TA TB WX WY big sm1 sm2 lo1 lo2 hi1 hi2 hx hx'
      have d0:=kb_cell Y0.out.k0 (i:=0) rfl;have d1:=kb_cell Y0.out.k0 (i:=1) rfl;have d2:=kb_cell Y0.out.k0 (i:=2) rfl;have e0:=kb_cell Y0.out.k1 (i:=0) rfl;have e1:=kb_cell Y0.out.k1 (i:=1) rfl;have e2:=kb_cell Y0.out.k1 (i:=2) rfl
      go_enter Tryd.func39,Tryd.ntmps39
      go_wp2_with (go_at_call 30;(with_reducible (first|refine (SA.out _ Y0.out.b).mono ?_|refine (SB.out _ Y0.out.b).mono ?_));rintro e w1 ⟨rfl,hb⟩;have Y0:=Lib.hid (Y0.out.then hb);clear d0 d1 d2 e0 e1 e2;have d0:=kb_cell Y0.out.k0 (i:=0) rfl;have d1:=kb_cell Y0.out.k0 (i:=1) rfl;have d2:=kb_cell Y0.out.k0 (i:=2) rfl;have e0:=kb_cell Y0.out.k1 (i:=0) rfl;have e1:=kb_cell Y0.out.k1 (i:=1) rfl;have e2:=kb_cell Y0.out.k1 (i:=2) rfl;clear hb)
      go_ret2
      exact ⟨rfl,Y0.out.b⟩
    · have TA:=Lib.hid (TA.out (z1 c2))
      have TB:=Lib.hid (TB.out (z2 (c1 ▸ c2)))
      have ns:(sgnI (sg g m) == 0)=false:=by rw [beq_eq_false_iff_ne];exact c2
      have n2:=z2 (c1 ▸ c2)
      have n1:=z1 c2
      have sr:sgnI (sg g m)=1 ∨ sgnI (sg g m)=-1:=by unfold sgnI at *;(repeat' split) <;> (repeat' split at c2) <;> omega
      have sw:wrap64 (-sgnI (sg g m))=-sgnI (sg g m):=by rcases sr with e|e <;> rw [e] <;> unfold wrap64 <;> omega
      by_cases c3:x + bl m=x' + bl m'
      · rw [c3] at TA
        have AL:cmpZ (sg g m * ((p2 (x + K).toNat:Nat):Int)) (sg g' m' * ((p2 (x' + K).toNat:Nat):Int))=if x' < x then cmpZ (sg g m * 2 ^ (x - x').toNat) (sg g' m') else cmpZ (sg g m) (sg g' m' * 2 ^ (x' - x).toNat):=by
          by_cases h:x' < x
          · rw [if_pos h,show (x + K).toNat=(x - x').toNat + (x' + K).toNat by omega,p2_add,Int.natCast_mul,← Int.mul_assoc,cmp_mul _ _ (p2i _),p2_def,Int.natCast_pow];rfl
          · rw [if_neg h,show (x' + K).toNat=(x' - x).toNat + (x + K).toNat by omega,p2_add,Int.natCast_mul,← Int.mul_assoc,cmp_mul _ _ (p2i _),p2_def,Int.natCast_pow];rfl
        have AL:=Lib.hid AL
        rw [AL.out]
        have q1:IntKind.i64.wrap (x - x')=x - x':=by rw [IntKind.wrap_i64];omega
        have q2:IntKind.i64.wrap (x' - x)=x' - x:=by clear q1;rw [IntKind.wrap_i64];omega
        have q1':wrap64 (x - x')=x - x':=by clear q1 q2;unfold wrap64;omega
        have q2':wrap64 (x' - x)=x' - x:=by clear q1 q2 q1';unfold wrap64;omega
        obtain ⟨T,hT⟩:∃ T,x' + (bl m':Int)=T:=⟨_,rfl⟩
        rw [hT] at TA TB
        rw [← c1] at SB
        obtain ⟨s,hs⟩:∃ s,sgnI (sg g m)=s:=⟨_,rfl⟩
        rw [hs] at SA SB ns sw
        obtain ⟨u,hu⟩:∃ u:Int,sg g m=u:=⟨_,rfl⟩
        obtain ⟨t,ht⟩:∃ t:Int,sg g' m'=t:=⟨_,rfl⟩
        have us:Sm (u.natAbs:Int):=by rw [← hu,sg_abs];exact sm1
        have ts:Sm (t.natAbs:Int):=by rw [← ht,sg_abs];exact sm2
        rw [hu] at WX big ⊢
        rw [ht] at WY ⊢
        have CM:Hid (∀ w a b v y,Sm (v.natAbs:Int)→IntAt w a v→IntAt w b y→Calls Tryd.prog 54 #[pt a,pt b] w fun e w'=>e=.returned (.int .i64 (cmpZ v y))∧Below w.heap.size w w'):=Lib.hid (fun w a b v y hs h1 h2=>icmp_c h1 h2 hs)
        have LA:Hid (∀ w b,IntAt w b u→Calls Tryd.prog 47 #[pt b,pt b,.int .u64 ((x - x').toNat:Int)] w (GPost b (u * 2 ^ (x - x').toNat) w)):=Lib.hid (fun w b h1=>lsh_c h1 h1 _ (by omega) us)
        have LB:Hid (∀ w b,IntAt w b t→Calls Tryd.prog 47 #[pt b,pt b,.int .u64 ((x' - x).toNat:Int)] w (GPost b (t * 2 ^ (x' - x).toNat) w)):=Lib.hid (fun w b h1=>lsh_c h1 h1 _ (by omega) ts)
        have US:=Lib.hid us
        have BG:=Lib.hid (big.out (x - x').toNat (by omega))
        clear s1 s2 z1 z2 c1 c2 c3 hT hs hu ht n1 n2 sr AL us ts big sm1 sm2
        by_cases c4:x' < x
        · rw [if_pos c4]
          have l4:decide (x' < x)=true:=decide_eq_true c4
          have l5:IntKind.u64.wrap (x - x')=((x - x').toNat:Int):=by rw [IntKind.wrap_u64];omega
          obtain ⟨N,hN⟩:∃ N,(x - x').toNat=N:=⟨_,rfl⟩
          rw [hN] at LA BG l5 ⊢
          clear LB hN c4 hx hx' lo1 lo2 hi1 hi2
          have d0:=kb_cell Y0.out.k0 (i:=0) rfl;have d1:=kb_cell Y0.out.k0 (i:=1) rfl;have d2:=kb_cell Y0.out.k0 (i:=2) rfl;have e0:=kb_cell Y0.out.k1 (i:=0) rfl;have e1:=kb_cell Y0.out.k1 (i:=1) rfl;have e2:=kb_cell Y0.out.k1 (i:=2) rfl
          go_enter Tryd.func39,Tryd.ntmps39
          go_upto_region 11 with (go_at_call 30;(with_reducible (first|refine (SA.out _ Y0.out.b).mono ?_|refine (SB.out _ Y0.out.b).mono ?_));rintro e w1 ⟨rfl,hb⟩;have Y0:=Lib.hid (Y0.out.then hb);clear d0 d1 d2 e0 e1 e2;have d0:=kb_cell Y0.out.k0 (i:=0) rfl;have d1:=kb_cell Y0.out.k0 (i:=1) rfl;have d2:=kb_cell Y0.out.k0 (i:=2) rfl;have e0:=kb_cell Y0.out.k1 (i:=0) rfl;have e1:=kb_cell Y0.out.k1 (i:=1) rfl;have e2:=kb_cell Y0.out.k1 (i:=2) rfl;clear hb)
          clear d0 d1 d2 e0 e1 e2
          have hS:w1.drew.cell? ⟨W.heap.size,0,none⟩=some (.bool g)∧w1.drew.cell? ⟨W.heap.size,1,none⟩=some (.slice A n c)∧w1.drew.cell? ⟨W.heap.size,2,none⟩=some (.int .i64 x)∧w1.drew.cell? ⟨W.heap.size + 1,0,none⟩=some (.bool g')∧w1.drew.cell? ⟨W.heap.size + 1,1,none⟩=some (.slice A' n' c')∧w1.drew.cell? ⟨W.heap.size + 1,2,none⟩=some (.int .i64 x'):=⟨kb_cell Y0.out.drew.k0 (i:=0) rfl,kb_cell Y0.out.drew.k0 (i:=1) rfl,kb_cell Y0.out.drew.k0 (i:=2) rfl,kb_cell Y0.out.drew.k1 (i:=0) rfl,kb_cell Y0.out.drew.k1 (i:=1) rfl,kb_cell Y0.out.drew.k1 (i:=2) rfl⟩
          refine wp_region_G (g:=3) (S:=fun w'=>w'.cell? ⟨W.heap.size,0,none⟩=some (.bool g)∧w'.cell? ⟨W.heap.size,1,none⟩=some (.slice A n c)∧w'.cell? ⟨W.heap.size,2,none⟩=some (.int .i64 x)∧w'.cell? ⟨W.heap.size + 1,0,none⟩=some (.bool g')∧w'.cell? ⟨W.heap.size + 1,1,none⟩=some (.slice A' n' c')∧w'.cell? ⟨W.heap.size + 1,2,none⟩=some (.int .i64 x')) (by kernel_rfl) ?_
          have YD:=Lib.hid Y0.out.drew
          obtain ⟨wd,hwd⟩:∃ w,w1.drew=w:=⟨_,rfl⟩
          rw [hwd] at hS YD
          rw [hwd]
          clear hwd
          (refine wpG_ldC (i:=0) [1,3] (v:=?_) rfl rfl (by kernel_rfl) (by kernel_rfl) (by kernel_rfl) (by kernel_rfl) (fun _ _ _ h=>h) (Or.inl ⟨by rfl,?_⟩) hS ?_;rotate_left;focus (intro w hSw;(try dsimp only at hSw);go_simp;first|done|with_reducible rfl|exact rfl));(try simp only [Act.put,zA,zB,zC,zD,zE,zF])
          (refine wpG_ld (i:=2) 3 (v:=?_) rfl rfl (by kernel_rfl) (by kernel_rfl) (by kernel_rfl) (by kernel_rfl) (fun _ _ _ h=>h) (Or.inl ⟨by rfl,?_⟩) hS ?_;rotate_left;focus (intro w hSw;(try dsimp only at hSw);go_simp;first|done|with_reducible rfl|exact rfl));(try simp only [Act.put,zA,zB,zC,zD,zE,zF])
          refine wpG_one (i:=1) (by kernel_rfl) rfl (fun K hK=>?_);have HK:=Lib.hid hK;clear hK
          go_simp
          (with_reducible refine (TA.out _ YD.out.b).mono ?_)
          rintro e wa ⟨rfl,hb⟩
          have Ywa:=Lib.hid (YD.out.then hb)
          refine HK.out _ _ (Or.inr ⟨kb_cell Ywa.out.k0 (i:=0) rfl,kb_cell Ywa.out.k0 (i:=1) rfl,kb_cell Ywa.out.k0 (i:=2) rfl,kb_cell Ywa.out.k1 (i:=0) rfl,kb_cell Ywa.out.k1 (i:=1) rfl,kb_cell Ywa.out.k1 (i:=2) rfl⟩) ?_
          clear hb hS
          clear HK K
          (try simp only [Act.put,zA,zB,zC,zD,zE,zF])
          refine wpG_one (i:=3) (by kernel_rfl) rfl (fun K hK=>?_);have HK:=Lib.hid hK;clear hK
          go_simp
          (with_reducible refine (TB.out _ Ywa.out.b).mono ?_)
          rintro e wb ⟨rfl,hb⟩
          have Ywb:=Lib.hid (Ywa.out.then hb)
          refine HK.out _ _ (Or.inl (by kernel_rfl)) ?_
          clear hb
          clear HK K
          (try simp only [Act.put,zA,zB,zC,zD,zE,zF])
          (refine wpG_take (i:=4) (v:=?_) rfl rfl (by kernel_rfl) (by kernel_rfl) (by kernel_rfl) (fun _ _ _ h=>h) (Or.inl ⟨by rfl,fun w=>?_⟩) (Or.inl (by kernel_rfl)) ?_;rotate_left;focus (go_simp;first|done|with_reducible rfl|exact rfl));(try simp only [Act.put,zA,zB,zC,zD,zE,zF]);(refine wpG_take (i:=5) (v:=?_) rfl rfl (by kernel_rfl) (by kernel_rfl) (by kernel_rfl) (fun _ _ _ h=>h) (Or.inl ⟨by rfl,fun w=>?_⟩) (Or.inl (by kernel_rfl)) ?_;rotate_left;focus (go_simp;first|done|with_reducible rfl|exact rfl));(try simp only [Act.put,zA,zB,zC,zD,zE,zF])
          refine wpG_done (by kernel_rfl) ?_ _
          go_upto_region 15 with (fail)
          have hS:wb.drew.cell? ⟨W.heap.size,0,none⟩=some (.bool g)∧wb.drew.cell? ⟨W.heap.size,1,none⟩=some (.slice A n c)∧wb.drew.cell? ⟨W.heap.size,2,none⟩=some (.int .i64 x)∧wb.drew.cell? ⟨W.heap.size + 1,0,none⟩=some (.bool g')∧wb.drew.cell? ⟨W.heap.size + 1,1,none⟩=some (.slice A' n' c')∧wb.drew.cell? ⟨W.heap.size + 1,2,none⟩=some (.int .i64 x'):=⟨kb_cell Ywb.out.drew.k0 (i:=0) rfl,kb_cell Ywb.out.drew.k0 (i:=1) rfl,kb_cell Ywb.out.drew.k0 (i:=2) rfl,kb_cell Ywb.out.drew.k1 (i:=0) rfl,kb_cell Ywb.out.drew.k1 (i:=1) rfl,kb_cell Ywb.out.drew.k1 (i:=2) rfl⟩
          refine wp_region_G (g:=3) (S:=fun w'=>w'.cell? ⟨W.heap.size,0,none⟩=some (.bool g)∧w'.cell? ⟨W.heap.size,1,none⟩=some (.slice A n c)∧w'.cell? ⟨W.heap.size,2,none⟩=some (.int .i64 x)∧w'.cell? ⟨W.heap.size + 1,0,none⟩=some (.bool g')∧w'.cell? ⟨W.heap.size + 1,1,none⟩=some (.slice A' n' c')∧w'.cell? ⟨W.heap.size + 1,2,none⟩=some (.int .i64 x')) (by kernel_rfl) ?_
          have YD:=Lib.hid Ywb.out.drew
          obtain ⟨wd,hwd⟩:∃ w,wb.drew=w:=⟨_,rfl⟩
          rw [hwd] at hS YD
          rw [hwd]
          clear hwd
          (refine wpG_ldC (i:=0) [1,3] (v:=?_) rfl rfl (by kernel_rfl) (by kernel_rfl) (by kernel_rfl) (by kernel_rfl) (fun _ _ _ h=>h) (Or.inl ⟨by rfl,?_⟩) hS ?_;rotate_left;focus (intro w hSw;(try dsimp only at hSw);go_simp;first|done|with_reducible rfl|exact rfl));(try simp only [Act.put,zA,zB,zC,zD,zE,zF])
          (refine wpG_ld (i:=2) 3 (v:=?_) rfl rfl (by kernel_rfl) (by kernel_rfl) (by kernel_rfl) (by kernel_rfl) (fun _ _ _ h=>h) (Or.inl ⟨by rfl,?_⟩) hS ?_;rotate_left;focus (intro w hSw;(try dsimp only at hSw);go_simp;first|done|with_reducible rfl|exact rfl));(try simp only [Act.put,zA,zB,zC,zD,zE,zF])
          refine wpG_one (i:=1) (by kernel_rfl) rfl (fun K hK=>?_);have HK:=Lib.hid hK;clear hK
          go_simp
          (with_reducible refine (WX.out _ YD.out.b).mono ?_)
          rintro e wc ⟨b,rfl,hbs,hI,hb⟩
          have Ywc:=Lib.hid (YD.out.then hb)
          have IX:=Lib.hid hI
          have NB:=Lib.hid (show W.heap.size + 1 < b by have:=kb_lt YD.out.k1;omega)
          refine HK.out _ _ (Or.inr ⟨kb_cell Ywc.out.k0 (i:=0) rfl,kb_cell Ywc.out.k0 (i:=1) rfl,kb_cell Ywc.out.k0 (i:=2) rfl,kb_cell Ywc.out.k1 (i:=0) rfl,kb_cell Ywc.out.k1 (i:=1) rfl,kb_cell Ywc.out.k1 (i:=2) rfl⟩) ?_
          clear hb hbs hI hS
          clear HK K
          (try simp only [Act.put,zA,zB,zC,zD,zE,zF])
          refine wpG_one (i:=3) (by kernel_rfl) rfl (fun K hK=>?_);have HK:=Lib.hid hK;clear hK
          go_simp
          (with_reducible refine (WY.out _ Ywc.out.b).mono ?_)
          rintro e we ⟨b',rfl,hbs,hI,hb⟩
          have Ywe:=Lib.hid (Ywc.out.then hb)
          have IY:=Lib.hid hI
          have NE:=Lib.hid (show b < b' by have:=IX.out.lt;omega)
          have IX:=Lib.hid (IX.out.below hb)
          refine HK.out _ _ (Or.inl (by kernel_rfl)) ?_
          clear hb hbs hI
          clear HK K
          (try simp only [Act.put,zA,zB,zC,zD,zE,zF])
          (refine wpG_take (i:=4) (v:=?_) rfl rfl (by kernel_rfl) (by kernel_rfl) (by kernel_rfl) (fun _ _ _ h=>h) (Or.inl ⟨by rfl,fun w=>?_⟩) (Or.inl (by kernel_rfl)) ?_;rotate_left;focus (go_simp;first|done|with_reducible rfl|exact rfl));(try simp only [Act.put,zA,zB,zC,zD,zE,zF]);(refine wpG_take (i:=5) (v:=?_) rfl rfl (by kernel_rfl) (by kernel_rfl) (by kernel_rfl) (fun _ _ _ h=>h) (Or.inl ⟨by rfl,fun w=>?_⟩) (Or.inl (by kernel_rfl)) ?_;rotate_left;focus (go_simp;first|done|with_reducible rfl|exact rfl));(try simp only [Act.put,zA,zB,zC,zD,zE,zF])
          refine wpG_done (by kernel_rfl) ?_ _
          have d0:=kb_cell Ywe.out.k0 (i:=0) rfl;have d1:=kb_cell Ywe.out.k0 (i:=1) rfl;have d2:=kb_cell Ywe.out.k0 (i:=2) rfl;have e0:=kb_cell Ywe.out.k1 (i:=0) rfl;have e1:=kb_cell Ywe.out.k1 (i:=1) rfl;have e2:=kb_cell Ywe.out.k1 (i:=2) rfl
          have Ih:=IX
          go_wp2_with (first
            | (go_at_call 47;(with_reducible refine (LA.out _ _ IX.out).mono ?_);rintro e wf ⟨rfl,hI,hz⟩;have IX:=Lib.hid hI;have IY:=Lib.hid (IY.out.keep Ih.out (Nat.ne_of_gt NE.out) hz);have Yf:=Lib.hid (Ywe.out.bz hz NB.out);clear hI hz)
            | (go_at_call 54;(with_reducible refine (CM.out _ _ _ _ _ BG.out IX.out IY.out).mono ?_);rintro e wg ⟨rfl,hb⟩;have BG2:=Lib.hid (bl_then Yf.out.b hb);clear hb))
          go_ret2
          exact ⟨rfl,BG2.out⟩
        · rw [if_neg c4]
          have l4:decide (x' < x)=false:=decide_eq_false c4
          have l5:IntKind.u64.wrap (x' - x)=((x' - x).toNat:Int):=by rw [IntKind.wrap_u64];omega
          obtain ⟨N,hN⟩:∃ N,(x' - x).toNat=N:=⟨_,rfl⟩
          rw [hN] at LB l5 ⊢
          clear LA BG hN c4 hx hx' lo1 lo2 hi1 hi2
          have d0:=kb_cell Y0.out.k0 (i:=0) rfl;have d1:=kb_cell Y0.out.k0 (i:=1) rfl;have d2:=kb_cell Y0.out.k0 (i:=2) rfl;have e0:=kb_cell Y0.out.k1 (i:=0) rfl;have e1:=kb_cell Y0.out.k1 (i:=1) rfl;have e2:=kb_cell Y0.out.k1 (i:=2) rfl
          go_enter Tryd.func39,Tryd.ntmps39
          go_upto_region 11 with (go_at_call 30;(with_reducible (first|refine (SA.out _ Y0.out.b).mono ?_|refine (SB.out _ Y0.out.b).mono ?_));rintro e w1 ⟨rfl,hb⟩;have Y0:=Lib.hid (Y0.out.then hb);clear d0 d1 d2 e0 e1 e2;have d0:=kb_cell Y0.out.k0 (i:=0) rfl;have d1:=kb_cell Y0.out.k0 (i:=1) rfl;have d2:=kb_cell Y0.out.k0 (i:=2) rfl;have e0:=kb_cell Y0.out.k1 (i:=0) rfl;have e1:=kb_cell Y0.out.k1 (i:=1) rfl;have e2:=kb_cell Y0.out.k1 (i:=2) rfl;clear hb)
          clear d0 d1 d2 e0 e1 e2
          have hS:w1.drew.cell? ⟨W.heap.size,0,none⟩=some (.bool g)∧w1.drew.cell? ⟨W.heap.size,1,none⟩=some (.slice A n c)∧w1.drew.cell? ⟨W.heap.size,2,none⟩=some (.int .i64 x)∧w1.drew.cell? ⟨W.heap.size + 1,0,none⟩=some (.bool g')∧w1.drew.cell? ⟨W.heap.size + 1,1,none⟩=some (.slice A' n' c')∧w1.drew.cell? ⟨W.heap.size + 1,2,none⟩=some (.int .i64 x'):=⟨kb_cell Y0.out.drew.k0 (i:=0) rfl,kb_cell Y0.out.drew.k0 (i:=1) rfl,kb_cell Y0.out.drew.k0 (i:=2) rfl,kb_cell Y0.out.drew.k1 (i:=0) rfl,kb_cell Y0.out.drew.k1 (i:=1) rfl,kb_cell Y0.out.drew.k1 (i:=2) rfl⟩
          refine wp_region_G (g:=3) (S:=fun w'=>w'.cell? ⟨W.heap.size,0,none⟩=some (.bool g)∧w'.cell? ⟨W.heap.size,1,none⟩=some (.slice A n c)∧w'.cell? ⟨W.heap.size,2,none⟩=some (.int .i64 x)∧w'.cell? ⟨W.heap.size + 1,0,none⟩=some (.bool g')∧w'.cell? ⟨W.heap.size + 1,1,none⟩=some (.slice A' n' c')∧w'.cell? ⟨W.heap.size + 1,2,none⟩=some (.int .i64 x')) (by kernel_rfl) ?_
          have YD:=Lib.hid Y0.out.drew
          obtain ⟨wd,hwd⟩:∃ w,w1.drew=w:=⟨_,rfl⟩
          rw [hwd] at hS YD
          rw [hwd]
          clear hwd
          (refine wpG_ldC (i:=0) [1,3] (v:=?_) rfl rfl (by kernel_rfl) (by kernel_rfl) (by kernel_rfl) (by kernel_rfl) (fun _ _ _ h=>h) (Or.inl ⟨by rfl,?_⟩) hS ?_;rotate_left;focus (intro w hSw;(try dsimp only at hSw);go_simp;first|done|with_reducible rfl|exact rfl));(try simp only [Act.put,zA,zB,zC,zD,zE,zF])
          (refine wpG_ld (i:=2) 3 (v:=?_) rfl rfl (by kernel_rfl) (by kernel_rfl) (by kernel_rfl) (by kernel_rfl) (fun _ _ _ h=>h) (Or.inl ⟨by rfl,?_⟩) hS ?_;rotate_left;focus (intro w hSw;(try dsimp only at hSw);go_simp;first|done|with_reducible rfl|exact rfl));(try simp only [Act.put,zA,zB,zC,zD,zE,zF])
          refine wpG_one (i:=1) (by kernel_rfl) rfl (fun K hK=>?_);have HK:=Lib.hid hK;clear hK
          go_simp
          (with_reducible refine (TA.out _ YD.out.b).mono ?_)
          rintro e wa ⟨rfl,hb⟩
          have Ywa:=Lib.hid (YD.out.then hb)
          refine HK.out _ _ (Or.inr ⟨kb_cell Ywa.out.k0 (i:=0) rfl,kb_cell Ywa.out.k0 (i:=1) rfl,kb_cell Ywa.out.k0 (i:=2) rfl,kb_cell Ywa.out.k1 (i:=0) rfl,kb_cell Ywa.out.k1 (i:=1) rfl,kb_cell Ywa.out.k1 (i:=2) rfl⟩) ?_
          clear hb hS
          clear HK K
          (try simp only [Act.put,zA,zB,zC,zD,zE,zF])
          refine wpG_one (i:=3) (by kernel_rfl) rfl (fun K hK=>?_);have HK:=Lib.hid hK;clear hK
          go_simp
          (with_reducible refine (TB.out _ Ywa.out.b).mono ?_)
          rintro e wb ⟨rfl,hb⟩
          have Ywb:=Lib.hid (Ywa.out.then hb)
          refine HK.out _ _ (Or.inl (by kernel_rfl)) ?_
          clear hb
          clear HK K
          (try simp only [Act.put,zA,zB,zC,zD,zE,zF])
          (refine wpG_take (i:=4) (v:=?_) rfl rfl (by kernel_rfl) (by kernel_rfl) (by kernel_rfl) (fun _ _ _ h=>h) (Or.inl ⟨by rfl,fun w=>?_⟩) (Or.inl (by kernel_rfl)) ?_;rotate_left;focus (go_simp;first|done|with_reducible rfl|exact rfl));(try simp only [Act.put,zA,zB,zC,zD,zE,zF]);(refine wpG_take (i:=5) (v:=?_) rfl rfl (by kernel_rfl) (by kernel_rfl) (by kernel_rfl) (fun _ _ _ h=>h) (Or.inl ⟨by rfl,fun w=>?_⟩) (Or.inl (by kernel_rfl)) ?_;rotate_left;focus (go_simp;first|done|with_reducible rfl|exact rfl));(try simp only [Act.put,zA,zB,zC,zD,zE,zF])
          refine wpG_done (by kernel_rfl) ?_ _
          go_upto_region 15 with (fail)
          have hS:wb.drew.cell? ⟨W.heap.size,0,none⟩=some (.bool g)∧wb.drew.cell? ⟨W.heap.size,1,none⟩=some (.slice A n c)∧wb.drew.cell? ⟨W.heap.size,2,none⟩=some (.int .i64 x)∧wb.drew.cell? ⟨W.heap.size + 1,0,none⟩=some (.bool g')∧wb.drew.cell? ⟨W.heap.size + 1,1,none⟩=some (.slice A' n' c')∧wb.drew.cell? ⟨W.heap.size + 1,2,none⟩=some (.int .i64 x'):=⟨kb_cell Ywb.out.drew.k0 (i:=0) rfl,kb_cell Ywb.out.drew.k0 (i:=1) rfl,kb_cell Ywb.out.drew.k0 (i:=2) rfl,kb_cell Ywb.out.drew.k1 (i:=0) rfl,kb_cell Ywb.out.drew.k1 (i:=1) rfl,kb_cell Ywb.out.drew.k1 (i:=2) rfl⟩
          refine wp_region_G (g:=3) (S:=fun w'=>w'.cell? ⟨W.heap.size,0,none⟩=some (.bool g)∧w'.cell? ⟨W.heap.size,1,none⟩=some (.slice A n c)∧w'.cell? ⟨W.heap.size,2,none⟩=some (.int .i64 x)∧w'.cell? ⟨W.heap.size + 1,0,none⟩=some (.bool g')∧w'.cell? ⟨W.heap.size + 1,1,none⟩=some (.slice A' n' c')∧w'.cell? ⟨W.heap.size + 1,2,none⟩=some (.int .i64 x')) (by kernel_rfl) ?_
          have YD:=Lib.hid Ywb.out.drew
          obtain ⟨wd,hwd⟩:∃ w,wb.drew=w:=⟨_,rfl⟩
          rw [hwd] at hS YD
          rw [hwd]
          clear hwd
          (refine wpG_ldC (i:=0) [1,3] (v:=?_) rfl rfl (by kernel_rfl) (by kernel_rfl) (by kernel_rfl) (by kernel_rfl) (fun _ _ _ h=>h) (Or.inl ⟨by rfl,?_⟩) hS ?_;rotate_left;focus (intro w hSw;(try dsimp only at hSw);go_simp;first|done|with_reducible rfl|exact rfl));(try simp only [Act.put,zA,zB,zC,zD,zE,zF])
          (refine wpG_ld (i:=2) 3 (v:=?_) rfl rfl (by kernel_rfl) (by kernel_rfl) (by kernel_rfl) (by kernel_rfl) (fun _ _ _ h=>h) (Or.inl ⟨by rfl,?_⟩) hS ?_;rotate_left;focus (intro w hSw;(try dsimp only at hSw);go_simp;first|done|with_reducible rfl|exact rfl));(try simp only [Act.put,zA,zB,zC,zD,zE,zF])
          refine wpG_one (i:=1) (by kernel_rfl) rfl (fun K hK=>?_);have HK:=Lib.hid hK;clear hK
          go_simp
          (with_reducible refine (WX.out _ YD.out.b).mono ?_)
          rintro e wc ⟨b,rfl,hbs,hI,hb⟩
          have Ywc:=Lib.hid (YD.out.then hb)
          have IX:=Lib.hid hI
          have NB:=Lib.hid (show W.heap.size + 1 < b by have:=kb_lt YD.out.k1;omega)
          refine HK.out _ _ (Or.inr ⟨kb_cell Ywc.out.k0 (i:=0) rfl,kb_cell Ywc.out.k0 (i:=1) rfl,kb_cell Ywc.out.k0 (i:=2) rfl,kb_cell Ywc.out.k1 (i:=0) rfl,kb_cell Ywc.out.k1 (i:=1) rfl,kb_cell Ywc.out.k1 (i:=2) rfl⟩) ?_
          clear hb hbs hI hS
          clear HK K
          (try simp only [Act.put,zA,zB,zC,zD,zE,zF])
          refine wpG_one (i:=3) (by kernel_rfl) rfl (fun K hK=>?_);have HK:=Lib.hid hK;clear hK
          go_simp
          (with_reducible refine (WY.out _ Ywc.out.b).mono ?_)
          rintro e we ⟨b',rfl,hbs,hI,hb⟩
          have Ywe:=Lib.hid (Ywc.out.then hb)
          have IY:=Lib.hid hI
          have NE:=Lib.hid (show b < b' by have:=IX.out.lt;omega)
          have IX:=Lib.hid (IX.out.below hb)
          refine HK.out _ _ (Or.inl (by kernel_rfl)) ?_
          clear hb hbs hI
          clear HK K
          (try simp only [Act.put,zA,zB,zC,zD,zE,zF])
          (refine wpG_take (i:=4) (v:=?_) rfl rfl (by kernel_rfl) (by kernel_rfl) (by kernel_rfl) (fun _ _ _ h=>h) (Or.inl ⟨by rfl,fun w=>?_⟩) (Or.inl (by kernel_rfl)) ?_;rotate_left;focus (go_simp;first|done|with_reducible rfl|exact rfl));(try simp only [Act.put,zA,zB,zC,zD,zE,zF]);(refine wpG_take (i:=5) (v:=?_) rfl rfl (by kernel_rfl) (by kernel_rfl) (by kernel_rfl) (fun _ _ _ h=>h) (Or.inl ⟨by rfl,fun w=>?_⟩) (Or.inl (by kernel_rfl)) ?_;rotate_left;focus (go_simp;first|done|with_reducible rfl|exact rfl));(try simp only [Act.put,zA,zB,zC,zD,zE,zF])
          refine wpG_done (by kernel_rfl) ?_ _
          have d0:=kb_cell Ywe.out.k0 (i:=0) rfl;have d1:=kb_cell Ywe.out.k0 (i:=1) rfl;have d2:=kb_cell Ywe.out.k0 (i:=2) rfl;have e0:=kb_cell Ywe.out.k1 (i:=0) rfl;have e1:=kb_cell Ywe.out.k1 (i:=1) rfl;have e2:=kb_cell Ywe.out.k1 (i:=2) rfl
          have Ih:=IY
          go_wp2_with (first
            | (go_at_call 47;(with_reducible refine (LB.out _ _ IY.out).mono ?_);rintro e wf ⟨rfl,hI,hz⟩;have IX:=Lib.hid (IX.out.keep Ih.out (Nat.ne_of_lt NE.out) hz);have IY:=Lib.hid hI;have Yf:=Lib.hid (Ywe.out.bz hz (Nat.lt_trans NB.out NE.out));clear hI hz)
            | (go_at_call 54;(with_reducible refine (CM.out _ _ _ _ _ US.out IX.out IY.out).mono ?_);rintro e wg ⟨rfl,hb⟩;have BG2:=Lib.hid (bl_then Yf.out.b hb);clear hb))
          go_ret2
          exact ⟨rfl,BG2.out⟩
      · by_cases c4:x + bl m < x' + bl m'
        · rw [← c1] at SB
          have RS:=Lib.hid (cmp_abs (s1.trans (c1.trans s2.symm)) (top_lt n2 hx hx' c4))
          rw [RS.out,s1]
          have t3:(x + (bl m:Int) != x' + bl m')=true:=by simpa using c3
          have t4:decide (x + (bl m:Int) < x' + bl m')=true:=decide_eq_true c4
          obtain ⟨T,hT⟩:∃ T,x + (bl m:Int)=T:=⟨_,rfl⟩
          obtain ⟨U,hU⟩:∃ T,x' + (bl m':Int)=T:=⟨_,rfl⟩
          rw [hT] at TA t3 t4
          rw [hU] at TB t3 t4
          obtain ⟨s,hs⟩:∃ s,sgnI (sg g m)=s:=⟨_,rfl⟩
          rw [hs] at SA SB ns sw ⊢
          clear s1 s2 z1 z2 c1 c2 c3 c4 RS WX WY big sm1 sm2 lo1 lo2 hi1 hi2 hx hx' n1 n2 sr hT hU hs
          have d0:=kb_cell Y0.out.k0 (i:=0) rfl;have d1:=kb_cell Y0.out.k0 (i:=1) rfl;have d2:=kb_cell Y0.out.k0 (i:=2) rfl;have e0:=kb_cell Y0.out.k1 (i:=0) rfl;have e1:=kb_cell Y0.out.k1 (i:=1) rfl;have e2:=kb_cell Y0.out.k1 (i:=2) rfl
          go_enter Tryd.func39,Tryd.ntmps39
          go_upto_region 11 with (go_at_call 30;(with_reducible (first|refine (SA.out _ Y0.out.b).mono ?_|refine (SB.out _ Y0.out.b).mono ?_));rintro e w1 ⟨rfl,hb⟩;have Y0:=Lib.hid (Y0.out.then hb);clear d0 d1 d2 e0 e1 e2;have d0:=kb_cell Y0.out.k0 (i:=0) rfl;have d1:=kb_cell Y0.out.k0 (i:=1) rfl;have d2:=kb_cell Y0.out.k0 (i:=2) rfl;have e0:=kb_cell Y0.out.k1 (i:=0) rfl;have e1:=kb_cell Y0.out.k1 (i:=1) rfl;have e2:=kb_cell Y0.out.k1 (i:=2) rfl;clear hb)
          clear d0 d1 d2 e0 e1 e2
          have hS:w1.drew.cell? ⟨W.heap.size,0,none⟩=some (.bool g)∧w1.drew.cell? ⟨W.heap.size,1,none⟩=some (.slice A n c)∧w1.drew.cell? ⟨W.heap.size,2,none⟩=some (.int .i64 x)∧w1.drew.cell? ⟨W.heap.size + 1,0,none⟩=some (.bool g')∧w1.drew.cell? ⟨W.heap.size + 1,1,none⟩=some (.slice A' n' c')∧w1.drew.cell? ⟨W.heap.size + 1,2,none⟩=some (.int .i64 x'):=⟨kb_cell Y0.out.drew.k0 (i:=0) rfl,kb_cell Y0.out.drew.k0 (i:=1) rfl,kb_cell Y0.out.drew.k0 (i:=2) rfl,kb_cell Y0.out.drew.k1 (i:=0) rfl,kb_cell Y0.out.drew.k1 (i:=1) rfl,kb_cell Y0.out.drew.k1 (i:=2) rfl⟩
          refine wp_region_G (g:=3) (S:=fun w'=>w'.cell? ⟨W.heap.size,0,none⟩=some (.bool g)∧w'.cell? ⟨W.heap.size,1,none⟩=some (.slice A n c)∧w'.cell? ⟨W.heap.size,2,none⟩=some (.int .i64 x)∧w'.cell? ⟨W.heap.size + 1,0,none⟩=some (.bool g')∧w'.cell? ⟨W.heap.size + 1,1,none⟩=some (.slice A' n' c')∧w'.cell? ⟨W.heap.size + 1,2,none⟩=some (.int .i64 x')) (by kernel_rfl) ?_
          have YD:=Lib.hid Y0.out.drew
          obtain ⟨wd,hwd⟩:∃ w,w1.drew=w:=⟨_,rfl⟩
          rw [hwd] at hS YD
          rw [hwd]
          clear hwd
          (refine wpG_ldC (i:=0) [1,3] (v:=?_) rfl rfl (by kernel_rfl) (by kernel_rfl) (by kernel_rfl) (by kernel_rfl) (fun _ _ _ h=>h) (Or.inl ⟨by rfl,?_⟩) hS ?_;rotate_left;focus (intro w hSw;(try dsimp only at hSw);go_simp;first|done|with_reducible rfl|exact rfl));(try simp only [Act.put,zA,zB,zC,zD,zE,zF])
          (refine wpG_ld (i:=2) 3 (v:=?_) rfl rfl (by kernel_rfl) (by kernel_rfl) (by kernel_rfl) (by kernel_rfl) (fun _ _ _ h=>h) (Or.inl ⟨by rfl,?_⟩) hS ?_;rotate_left;focus (intro w hSw;(try dsimp only at hSw);go_simp;first|done|with_reducible rfl|exact rfl));(try simp only [Act.put,zA,zB,zC,zD,zE,zF])
          refine wpG_one (i:=1) (by kernel_rfl) rfl (fun K hK=>?_);have HK:=Lib.hid hK;clear hK
          go_simp
          (with_reducible refine (TA.out _ YD.out.b).mono ?_)
          rintro e wa ⟨rfl,hb⟩
          have Ywa:=Lib.hid (YD.out.then hb)
          refine HK.out _ _ (Or.inr ⟨kb_cell Ywa.out.k0 (i:=0) rfl,kb_cell Ywa.out.k0 (i:=1) rfl,kb_cell Ywa.out.k0 (i:=2) rfl,kb_cell Ywa.out.k1 (i:=0) rfl,kb_cell Ywa.out.k1 (i:=1) rfl,kb_cell Ywa.out.k1 (i:=2) rfl⟩) ?_
          clear hb hS
          clear HK K
          (try simp only [Act.put,zA,zB,zC,zD,zE,zF])
          refine wpG_one (i:=3) (by kernel_rfl) rfl (fun K hK=>?_);have HK:=Lib.hid hK;clear hK
          go_simp
          (with_reducible refine (TB.out _ Ywa.out.b).mono ?_)
          rintro e wb ⟨rfl,hb⟩
          have Ywb:=Lib.hid (Ywa.out.then hb)
          refine HK.out _ _ (Or.inl (by kernel_rfl)) ?_
          clear hb
          clear HK K
          (try simp only [Act.put,zA,zB,zC,zD,zE,zF])
          (refine wpG_take (i:=4) (v:=?_) rfl rfl (by kernel_rfl) (by kernel_rfl) (by kernel_rfl) (fun _ _ _ h=>h) (Or.inl ⟨by rfl,fun w=>?_⟩) (Or.inl (by kernel_rfl)) ?_;rotate_left;focus (go_simp;first|done|with_reducible rfl|exact rfl));(try simp only [Act.put,zA,zB,zC,zD,zE,zF]);(refine wpG_take (i:=5) (v:=?_) rfl rfl (by kernel_rfl) (by kernel_rfl) (by kernel_rfl) (fun _ _ _ h=>h) (Or.inl ⟨by rfl,fun w=>?_⟩) (Or.inl (by kernel_rfl)) ?_;rotate_left;focus (go_simp;first|done|with_reducible rfl|exact rfl));(try simp only [Act.put,zA,zB,zC,zD,zE,zF])
          refine wpG_done (by kernel_rfl) ?_ _
          go_upto_region 12 with (fail)
          have hS:wb.drew.cell? ⟨W.heap.size,0,none⟩=some (.bool g)∧wb.drew.cell? ⟨W.heap.size,1,none⟩=some (.slice A n c)∧wb.drew.cell? ⟨W.heap.size,2,none⟩=some (.int .i64 x)∧wb.drew.cell? ⟨W.heap.size + 1,0,none⟩=some (.bool g')∧wb.drew.cell? ⟨W.heap.size + 1,1,none⟩=some (.slice A' n' c')∧wb.drew.cell? ⟨W.heap.size + 1,2,none⟩=some (.int .i64 x'):=⟨kb_cell Ywb.out.drew.k0 (i:=0) rfl,kb_cell Ywb.out.drew.k0 (i:=1) rfl,kb_cell Ywb.out.drew.k0 (i:=2) rfl,kb_cell Ywb.out.drew.k1 (i:=0) rfl,kb_cell Ywb.out.drew.k1 (i:=1) rfl,kb_cell Ywb.out.drew.k1 (i:=2) rfl⟩
          refine wp_region_G (g:=3) (S:=fun w'=>w'.cell? ⟨W.heap.size,0,none⟩=some (.bool g)∧w'.cell? ⟨W.heap.size,1,none⟩=some (.slice A n c)∧w'.cell? ⟨W.heap.size,2,none⟩=some (.int .i64 x)∧w'.cell? ⟨W.heap.size + 1,0,none⟩=some (.bool g')∧w'.cell? ⟨W.heap.size + 1,1,none⟩=some (.slice A' n' c')∧w'.cell? ⟨W.heap.size + 1,2,none⟩=some (.int .i64 x')) (by kernel_rfl) ?_
          have YD:=Lib.hid Ywb.out.drew
          obtain ⟨wd,hwd⟩:∃ w,wb.drew=w:=⟨_,rfl⟩
          rw [hwd] at hS YD
          rw [hwd]
          clear hwd
          (refine wpG_ldC (i:=0) [1,3] (v:=?_) rfl rfl (by kernel_rfl) (by kernel_rfl) (by kernel_rfl) (by kernel_rfl) (fun _ _ _ h=>h) (Or.inl ⟨by rfl,?_⟩) hS ?_;rotate_left;focus (intro w hSw;(try dsimp only at hSw);go_simp;first|done|with_reducible rfl|exact rfl));(try simp only [Act.put,zA,zB,zC,zD,zE,zF])
          (refine wpG_ld (i:=2) 3 (v:=?_) rfl rfl (by kernel_rfl) (by kernel_rfl) (by kernel_rfl) (by kernel_rfl) (fun _ _ _ h=>h) (Or.inl ⟨by rfl,?_⟩) hS ?_;rotate_left;focus (intro w hSw;(try dsimp only at hSw);go_simp;first|done|with_reducible rfl|exact rfl));(try simp only [Act.put,zA,zB,zC,zD,zE,zF])
          refine wpG_one (i:=1) (by kernel_rfl) rfl (fun K hK=>?_);have HK:=Lib.hid hK;clear hK
          go_simp
          (with_reducible refine (TA.out _ YD.out.b).mono ?_)
          rintro e wc ⟨rfl,hb⟩
          have Ywc:=Lib.hid (YD.out.then hb)
          refine HK.out _ _ (Or.inr ⟨kb_cell Ywc.out.k0 (i:=0) rfl,kb_cell Ywc.out.k0 (i:=1) rfl,kb_cell Ywc.out.k0 (i:=2) rfl,kb_cell Ywc.out.k1 (i:=0) rfl,kb_cell Ywc.out.k1 (i:=1) rfl,kb_cell Ywc.out.k1 (i:=2) rfl⟩) ?_
          clear hb hS
          clear HK K
          (try simp only [Act.put,zA,zB,zC,zD,zE,zF])
          refine wpG_one (i:=3) (by kernel_rfl) rfl (fun K hK=>?_);have HK:=Lib.hid hK;clear hK
          go_simp
          (with_reducible refine (TB.out _ Ywc.out.b).mono ?_)
          rintro e we ⟨rfl,hb⟩
          have Ywe:=Lib.hid (Ywc.out.then hb)
          refine HK.out _ _ (Or.inl (by kernel_rfl)) ?_
          clear hb
          clear HK K
          (try simp only [Act.put,zA,zB,zC,zD,zE,zF])
          (refine wpG_take (i:=4) (v:=?_) rfl rfl (by kernel_rfl) (by kernel_rfl) (by kernel_rfl) (fun _ _ _ h=>h) (Or.inl ⟨by rfl,fun w=>?_⟩) (Or.inl (by kernel_rfl)) ?_;rotate_left;focus (go_simp;first|done|with_reducible rfl|exact rfl));(try simp only [Act.put,zA,zB,zC,zD,zE,zF])
          refine wpG_done (by kernel_rfl) ?_ _
          go_wp2
          go_ret2
          exact ⟨ret_tup2 (by first|exact sw|rfl),Ywe.out.b⟩
        · rw [← c1] at SB
          have RS:=Lib.hid (cmp_abs2 (s1.trans (c1.trans s2.symm)) (top_lt n1 hx' hx (by omega)))
          rw [RS.out,s1]
          have t3:(x + (bl m:Int) != x' + bl m')=true:=by simpa using c3
          have t4:decide (x + (bl m:Int) < x' + bl m')=false:=decide_eq_false c4
          obtain ⟨T,hT⟩:∃ T,x + (bl m:Int)=T:=⟨_,rfl⟩
          obtain ⟨U,hU⟩:∃ T,x' + (bl m':Int)=T:=⟨_,rfl⟩
          rw [hT] at TA t3 t4
          rw [hU] at TB t3 t4
          obtain ⟨s,hs⟩:∃ s,sgnI (sg g m)=s:=⟨_,rfl⟩
          rw [hs] at SA SB ns sw ⊢
          clear s1 s2 z1 z2 c1 c2 c3 c4 RS WX WY big sm1 sm2 lo1 lo2 hi1 hi2 hx hx' n1 n2 sr hT hU hs
          have d0:=kb_cell Y0.out.k0 (i:=0) rfl;have d1:=kb_cell Y0.out.k0 (i:=1) rfl;have d2:=kb_cell Y0.out.k0 (i:=2) rfl;have e0:=kb_cell Y0.out.k1 (i:=0) rfl;have e1:=kb_cell Y0.out.k1 (i:=1) rfl;have e2:=kb_cell Y0.out.k1 (i:=2) rfl
          go_enter Tryd.func39,Tryd.ntmps39
          go_upto_region 11 with (go_at_call 30;(with_reducible (first|refine (SA.out _ Y0.out.b).mono ?_|refine (SB.out _ Y0.out.b).mono ?_));rintro e w1 ⟨rfl,hb⟩;have Y0:=Lib.hid (Y0.out.then hb);clear d0 d1 d2 e0 e1 e2;have d0:=kb_cell Y0.out.k0 (i:=0) rfl;have d1:=kb_cell Y0.out.k0 (i:=1) rfl;have d2:=kb_cell Y0.out.k0 (i:=2) rfl;have e0:=kb_cell Y0.out.k1 (i:=0) rfl;have e1:=kb_cell Y0.out.k1 (i:=1) rfl;have e2:=kb_cell Y0.out.k1 (i:=2) rfl;clear hb)
          clear d0 d1 d2 e0 e1 e2
          have hS:w1.drew.cell? ⟨W.heap.size,0,none⟩=some (.bool g)∧w1.drew.cell? ⟨W.heap.size,1,none⟩=some (.slice A n c)∧w1.drew.cell? ⟨W.heap.size,2,none⟩=some (.int .i64 x)∧w1.drew.cell? ⟨W.heap.size + 1,0,none⟩=some (.bool g')∧w1.drew.cell? ⟨W.heap.size + 1,1,none⟩=some (.slice A' n' c')∧w1.drew.cell? ⟨W.heap.size + 1,2,none⟩=some (.int .i64 x'):=⟨kb_cell Y0.out.drew.k0 (i:=0) rfl,kb_cell Y0.out.drew.k0 (i:=1) rfl,kb_cell Y0.out.drew.k0 (i:=2) rfl,kb_cell Y0.out.drew.k1 (i:=0) rfl,kb_cell Y0.out.drew.k1 (i:=1) rfl,kb_cell Y0.out.drew.k1 (i:=2) rfl⟩
          refine wp_region_G (g:=3) (S:=fun w'=>w'.cell? ⟨W.heap.size,0,none⟩=some (.bool g)∧w'.cell? ⟨W.heap.size,1,none⟩=some (.slice A n c)∧w'.cell? ⟨W.heap.size,2,none⟩=some (.int .i64 x)∧w'.cell? ⟨W.heap.size + 1,0,none⟩=some (.bool g')∧w'.cell? ⟨W.heap.size + 1,1,none⟩=some (.slice A' n' c')∧w'.cell? ⟨W.heap.size + 1,2,none⟩=some (.int .i64 x')) (by kernel_rfl) ?_
          have YD:=Lib.hid Y0.out.drew
          obtain ⟨wd,hwd⟩:∃ w,w1.drew=w:=⟨_,rfl⟩
          rw [hwd] at hS YD
          rw [hwd]
          clear hwd
          (refine wpG_ldC (i:=0) [1,3] (v:=?_) rfl rfl (by kernel_rfl) (by kernel_rfl) (by kernel_rfl) (by kernel_rfl) (fun _ _ _ h=>h) (Or.inl ⟨by rfl,?_⟩) hS ?_;rotate_left;focus (intro w hSw;(try dsimp only at hSw);go_simp;first|done|with_reducible rfl|exact rfl));(try simp only [Act.put,zA,zB,zC,zD,zE,zF])
          (refine wpG_ld (i:=2) 3 (v:=?_) rfl rfl (by kernel_rfl) (by kernel_rfl) (by kernel_rfl) (by kernel_rfl) (fun _ _ _ h=>h) (Or.inl ⟨by rfl,?_⟩) hS ?_;rotate_left;focus (intro w hSw;(try dsimp only at hSw);go_simp;first|done|with_reducible rfl|exact rfl));(try simp only [Act.put,zA,zB,zC,zD,zE,zF])
          refine wpG_one (i:=1) (by kernel_rfl) rfl (fun K hK=>?_);have HK:=Lib.hid hK;clear hK
          go_simp
          (with_reducible refine (TA.out _ YD.out.b).mono ?_)
          rintro e wa ⟨rfl,hb⟩
          have Ywa:=Lib.hid (YD.out.then hb)
          refine HK.out _ _ (Or.inr ⟨kb_cell Ywa.out.k0 (i:=0) rfl,kb_cell Ywa.out.k0 (i:=1) rfl,kb_cell Ywa.out.k0 (i:=2) rfl,kb_cell Ywa.out.k1 (i:=0) rfl,kb_cell Ywa.out.k1 (i:=1) rfl,kb_cell Ywa.out.k1 (i:=2) rfl⟩) ?_
          clear hb hS
          clear HK K
          (try simp only [Act.put,zA,zB,zC,zD,zE,zF])
          refine wpG_one (i:=3) (by kernel_rfl) rfl (fun K hK=>?_);have HK:=Lib.hid hK;clear hK
          go_simp
          (with_reducible refine (TB.out _ Ywa.out.b).mono ?_)
          rintro e wb ⟨rfl,hb⟩
          have Ywb:=Lib.hid (Ywa.out.then hb)
          refine HK.out _ _ (Or.inl (by kernel_rfl)) ?_
          clear hb
          clear HK K
          (try simp only [Act.put,zA,zB,zC,zD,zE,zF])
          (refine wpG_take (i:=4) (v:=?_) rfl rfl (by kernel_rfl) (by kernel_rfl) (by kernel_rfl) (fun _ _ _ h=>h) (Or.inl ⟨by rfl,fun w=>?_⟩) (Or.inl (by kernel_rfl)) ?_;rotate_left;focus (go_simp;first|done|with_reducible rfl|exact rfl));(try simp only [Act.put,zA,zB,zC,zD,zE,zF]);(refine wpG_take (i:=5) (v:=?_) rfl rfl (by kernel_rfl) (by kernel_rfl) (by kernel_rfl) (fun _ _ _ h=>h) (Or.inl ⟨by rfl,fun w=>?_⟩) (Or.inl (by kernel_rfl)) ?_;rotate_left;focus (go_simp;first|done|with_reducible rfl|exact rfl));(try simp only [Act.put,zA,zB,zC,zD,zE,zF])
          refine wpG_done (by kernel_rfl) ?_ _
          go_upto_region 12 with (fail)
          have hS:wb.drew.cell? ⟨W.heap.size,0,none⟩=some (.bool g)∧wb.drew.cell? ⟨W.heap.size,1,none⟩=some (.slice A n c)∧wb.drew.cell? ⟨W.heap.size,2,none⟩=some (.int .i64 x)∧wb.drew.cell? ⟨W.heap.size + 1,0,none⟩=some (.bool g')∧wb.drew.cell? ⟨W.heap.size + 1,1,none⟩=some (.slice A' n' c')∧wb.drew.cell? ⟨W.heap.size + 1,2,none⟩=some (.int .i64 x'):=⟨kb_cell Ywb.out.drew.k0 (i:=0) rfl,kb_cell Ywb.out.drew.k0 (i:=1) rfl,kb_cell Ywb.out.drew.k0 (i:=2) rfl,kb_cell Ywb.out.drew.k1 (i:=0) rfl,kb_cell Ywb.out.drew.k1 (i:=1) rfl,kb_cell Ywb.out.drew.k1 (i:=2) rfl⟩
          refine wp_region_G (g:=3) (S:=fun w'=>w'.cell? ⟨W.heap.size,0,none⟩=some (.bool g)∧w'.cell? ⟨W.heap.size,1,none⟩=some (.slice A n c)∧w'.cell? ⟨W.heap.size,2,none⟩=some (.int .i64 x)∧w'.cell? ⟨W.heap.size + 1,0,none⟩=some (.bool g')∧w'.cell? ⟨W.heap.size + 1,1,none⟩=some (.slice A' n' c')∧w'.cell? ⟨W.heap.size + 1,2,none⟩=some (.int .i64 x')) (by kernel_rfl) ?_
          have YD:=Lib.hid Ywb.out.drew
          obtain ⟨wd,hwd⟩:∃ w,wb.drew=w:=⟨_,rfl⟩
          rw [hwd] at hS YD
          rw [hwd]
          clear hwd
          (refine wpG_ldC (i:=0) [1,3] (v:=?_) rfl rfl (by kernel_rfl) (by kernel_rfl) (by kernel_rfl) (by kernel_rfl) (fun _ _ _ h=>h) (Or.inl ⟨by rfl,?_⟩) hS ?_;rotate_left;focus (intro w hSw;(try dsimp only at hSw);go_simp;first|done|with_reducible rfl|exact rfl));(try simp only [Act.put,zA,zB,zC,zD,zE,zF])
          (refine wpG_ld (i:=2) 3 (v:=?_) rfl rfl (by kernel_rfl) (by kernel_rfl) (by kernel_rfl) (by kernel_rfl) (fun _ _ _ h=>h) (Or.inl ⟨by rfl,?_⟩) hS ?_;rotate_left;focus (intro w hSw;(try dsimp only at hSw);go_simp;first|done|with_reducible rfl|exact rfl));(try simp only [Act.put,zA,zB,zC,zD,zE,zF])
          refine wpG_one (i:=1) (by kernel_rfl) rfl (fun K hK=>?_);have HK:=Lib.hid hK;clear hK
          go_simp
          (with_reducible refine (TA.out _ YD.out.b).mono ?_)
          rintro e wc ⟨rfl,hb⟩
          have Ywc:=Lib.hid (YD.out.then hb)
          refine HK.out _ _ (Or.inr ⟨kb_cell Ywc.out.k0 (i:=0) rfl,kb_cell Ywc.out.k0 (i:=1) rfl,kb_cell Ywc.out.k0 (i:=2) rfl,kb_cell Ywc.out.k1 (i:=0) rfl,kb_cell Ywc.out.k1 (i:=1) rfl,kb_cell Ywc.out.k1 (i:=2) rfl⟩) ?_
          clear hb hS
          clear HK K
          (try simp only [Act.put,zA,zB,zC,zD,zE,zF])
          refine wpG_one (i:=3) (by kernel_rfl) rfl (fun K hK=>?_);have HK:=Lib.hid hK;clear hK
          go_simp
          (with_reducible refine (TB.out _ Ywc.out.b).mono ?_)
          rintro e we ⟨rfl,hb⟩
          have Ywe:=Lib.hid (Ywc.out.then hb)
          refine HK.out _ _ (Or.inl (by kernel_rfl)) ?_
          clear hb
          clear HK K
          (try simp only [Act.put,zA,zB,zC,zD,zE,zF])
          (refine wpG_take (i:=4) (v:=?_) rfl rfl (by kernel_rfl) (by kernel_rfl) (by kernel_rfl) (fun _ _ _ h=>h) (Or.inl ⟨by rfl,fun w=>?_⟩) (Or.inl (by kernel_rfl)) ?_;rotate_left;focus (go_simp;first|done|with_reducible rfl|exact rfl));(try simp only [Act.put,zA,zB,zC,zD,zE,zF])
          refine wpG_done (by kernel_rfl) ?_ _
          go_wp2
          go_ret2
          exact ⟨ret_tup2 (by first|exact sw|rfl),Ywe.out.b⟩
  · have RS:=Lib.hid (cmp_sg (a:=sg g m * ((p2 (x + K).toNat:Nat):Int)) (b:=sg g' m' * ((p2 (x' + K).toNat:Nat):Int)) (by rw [s1,s2];exact c1))
    rw [s1,s2] at RS
    rw [RS.out]
    have t1:(sgnI (sg g m) != sgnI (sg g' m'))=true:=by simpa using c1
    by_cases c2:sgnI (sg g m) < sgnI (sg g' m')
    · rw [if_pos c2]
      have t2:decide (sgnI (sg g m) < sgnI (sg g' m'))=true:=decide_eq_true c2
      obtain ⟨s,hs⟩:∃ s,sgnI (sg g m)=s:=⟨_,rfl⟩
      obtain ⟨s',hs'⟩:∃ s,sgnI (sg g' m')=s:=⟨_,rfl⟩
      rw [hs] at SA t1 t2
      rw [hs'] at SB t1 t2
      clear s1 s2 z1 z2 c1 c2 RS TA TB WX WY big sm1 sm2 lo1 lo2 hi1 hi2 hx hx' hs hs'
      have d0:=kb_cell Y0.out.k0 (i:=0) rfl;have d1:=kb_cell Y0.out.k0 (i:=1) rfl;have d2:=kb_cell Y0.out.k0 (i:=2) rfl;have e0:=kb_cell Y0.out.k1 (i:=0) rfl;have e1:=kb_cell Y0.out.k1 (i:=1) rfl;have e2:=kb_cell Y0.out.k1 (i:=2) rfl
      go_enter Tryd.func39,Tryd.ntmps39
      go_wp2_with (go_at_call 30;(with_reducible (first|refine (SA.out _ Y0.out.b).mono ?_|refine (SB.out _ Y0.out.b).mono ?_));rintro e w1 ⟨rfl,hb⟩;have Y0:=Lib.hid (Y0.out.then hb);clear d0 d1 d2 e0 e1 e2;have d0:=kb_cell Y0.out.k0 (i:=0) rfl;have d1:=kb_cell Y0.out.k0 (i:=1) rfl;have d2:=kb_cell Y0.out.k0 (i:=2) rfl;have e0:=kb_cell Y0.out.k1 (i:=0) rfl;have e1:=kb_cell Y0.out.k1 (i:=1) rfl;have e2:=kb_cell Y0.out.k1 (i:=2) rfl;clear hb)
      go_ret2
      exact ⟨rfl,Y0.out.b⟩
    · rw [if_neg c2]
      have t2:decide (sgnI (sg g m) < sgnI (sg g' m'))=false:=decide_eq_false c2
      obtain ⟨s,hs⟩:∃ s,sgnI (sg g m)=s:=⟨_,rfl⟩
      obtain ⟨s',hs'⟩:∃ s,sgnI (sg g' m')=s:=⟨_,rfl⟩
      rw [hs] at SA t1 t2
      rw [hs'] at SB t1 t2
      clear s1 s2 z1 z2 c1 c2 RS TA TB WX WY big sm1 sm2 lo1 lo2 hi1 hi2 hx hx' hs hs'
      have d0:=kb_cell Y0.out.k0 (i:=0) rfl;have d1:=kb_cell Y0.out.k0 (i:=1) rfl;have d2:=kb_cell Y0.out.k0 (i:=2) rfl;have e0:=kb_cell Y0.out.k1 (i:=0) rfl;have e1:=kb_cell Y0.out.k1 (i:=1) rfl;have e2:=kb_cell Y0.out.k1 (i:=2) rfl
      go_enter Tryd.func39,Tryd.ntmps39
      go_wp2_with (go_at_call 30;(with_reducible (first|refine (SA.out _ Y0.out.b).mono ?_|refine (SB.out _ Y0.out.b).mono ?_));rintro e w1 ⟨rfl,hb⟩;have Y0:=Lib.hid (Y0.out.then hb);clear d0 d1 d2 e0 e1 e2;have d0:=kb_cell Y0.out.k0 (i:=0) rfl;have d1:=kb_cell Y0.out.k0 (i:=1) rfl;have d2:=kb_cell Y0.out.k0 (i:=2) rfl;have e0:=kb_cell Y0.out.k1 (i:=0) rfl;have e1:=kb_cell Y0.out.k1 (i:=1) rfl;have e2:=kb_cell Y0.out.k1 (i:=2) rfl;clear hb)
      go_ret2
      exact ⟨rfl,Y0.out.b⟩
end Go.Proofs.YtalhpbilkhdfhaaDoor
