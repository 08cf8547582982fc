import Derived.Test.YtmndoelimincdaaGreatDoorTRRr
import Derived.Test.YtmndoelimincdaaGreatDoorTRRs
import Derived.Test.YtmndoelimincdaaGreatDoorTRRl
namespace Go.Proofs.YtmndoelimincdaaGreatDoor
open Go Go.RowKit Nv
open Go.Proofs.YtmndoelimincdaaGreatDoorW.PrintWords (Kd)
open XRf
set_option maxRecDepth 100000
set_option linter.unusedSimpArgs false
theorem natBits_d {w:World} {u:Value} {m:Int} (h:Ld w u m) (hs:Sl m):Calls Tryz.prog 103 #[u] w fun e w'=>e=.returned (.int .i64 (bl m.toNat))∧Below w.heap.size w w':=by
  obtain ⟨A,c,l,rfl,hl,hC,hN,rfl⟩:=h
  have hlen:=llen_of hN hs
  exact girderref00_NatBits.calls K0 A c l _ w hC hl (natBits_e l hN.1 (by omega))
theorem bl_ls {m:Int} (h0:0≤m) {n:Nat} (h:m < ls n):bl m.toNat≤64 * n:=by
  refine bl_le_of ?_
  rw [ls_nat,Nat.pow_mul] at h
  have e:(2:Nat) ^ (64 * n)=(4294967296 ^ 2) ^ n:=by rw [Nat.pow_mul]
  rw [e]
  omega
theorem bl_sl {m:Int} (h0:0≤m) (h:Sl m):bl m.toNat≤64000000:=bl_ls h0 h
theorem NS.agg {w:World} {v:Value} {k:Nat} {E z:Int} (h:NS w v k E z):∃ g A n c x,v=.agg #[.bool g,.slice A n c,.int .i64 x]:=by
  obtain ⟨g,m,x,⟨u,rfl,hu⟩,_⟩:=h
  obtain ⟨A,n,c,rfl⟩:=hu.slice
  exact ⟨g,A,n,c,x,rfl⟩
theorem NS.set3 {w:World} {b n c k:Nat} {v:Value} {A:Option Addr} {g0 G:Bool} {E z x0 X:Int} {v0:Value} (h:NS w v k E z) (hb:w.heap[b]?=some (.cells #[.bool g0,v0,.int .i64 x0] 53 (0,0))) (hv:∀ z,v0 ≠ .int .u64 z):NS (((w.setCell ⟨b,0,none⟩ (.bool G)).setCell ⟨b,1,none⟩ (.slice A n c)).setCell ⟨b,2,none⟩ (.int .i64 X)) v k E z:=by
  obtain ⟨g,m,x,⟨u,rfl,hu⟩,h2⟩:=h
  have y0:=hp_set hb 0 (.bool G)
  have y1:=hp_set y0 1 (.slice A n c)
  exact ⟨g,m,x,⟨u,rfl,((hu.setc (kb_cell hb (i:=0) rfl) (fun z h=>by cases h) _).setc (kb_cell y0 (i:=1) rfl) hv _).setc (kb_cell y1 (i:=2) rfl) (fun z h=>by cases h) _⟩,h2⟩
set_option maxHeartbeats 1000000 in
theorem top_d {W:World} {u:Value} {g:Bool} {m x:Int} (h:Nu W u g m x) (hs:Sl m) (hx:-1000000000≤x∧x≤1000000000) :
    Calls Tryz.prog 72 #[u] W fun e w'=>e=.returned (.int .i64 (x + bl m.toNat))∧Below W.heap.size W w':=by
  have hb:=bl_sl h.pos hs
  obtain ⟨u,rfl,hu⟩:=h
  have NB:Hid (∀ w,Below W.heap.size W w→Calls Tryz.prog 103 #[u] w fun e w'=>e=.returned (.int .i64 (bl m.toNat))∧Below w.heap.size w w'):=Lib.hid (fun w hb=>natBits_d (hu.below hb) hs)
  obtain ⟨A,n,c,rfl⟩:=hu.slice
  obtain ⟨b,hbe⟩:∃ b,bl m.toNat=b:=⟨_,rfl⟩
  rw [hbe] at NB hb ⊢
  have wx:wrap64 (x + (b:Int))=x + (b:Int):=by unfold wrap64;omega
  have wx2:IntKind.i64.wrap (x + (b:Int))=x + (b:Int):=by clear wx;rw [IntKind.wrap_i64];omega
  clear hu hs hx hb hbe
  have B0:=Lib.hid (bl_alloc (Below.refl W.heap.size W) (.cells #[.bool g,.slice A n c,.int .i64 x] 53))
  have K0:=Lib.hid (kb_new (w:=W) (o:=.cells #[.bool g,.slice A n c,.int .i64 x] 53) (Below.refl _ _))
  go_enter Tryz.func72,Tryz.ntmps72
  go_upto_region 1 with (fail)
  obtain ⟨w1,hw1⟩:∃ w,W.alloc (.cells #[.bool g,.slice A n c,.int .i64 x] 53)=w:=⟨_,rfl⟩
  rw [hw1] at B0 K0
  simp only [hw1]
  clear hw1
  refine wp_region_G (g:=6) (S:=fun w'=>w'.cell? ⟨W.heap.size,1,none⟩=some (.slice A n c)∧w'.cell? ⟨W.heap.size,2,none⟩=some (.int .i64 x)) (by kernel_rfl) ?_
  have B1:=Lib.hid (bl_drew B0.out)
  have K1:Hid (w1.drew.heap[W.heap.size]?=some (.cells #[.bool g,.slice A n c,.int .i64 x] 53 (0,0))):=Lib.hid K0.out
  have hS:w1.drew.cell? ⟨W.heap.size,1,none⟩=some (.slice A n c)∧w1.drew.cell? ⟨W.heap.size,2,none⟩=some (.int .i64 x):=⟨kb_cell K0.out (i:=1) rfl,kb_cell K0.out (i:=2) rfl⟩
  (refine wpG_take (i:=0) (v:=?_) rfl rfl (by kernel_rfl) (by kernel_rfl) (by kernel_rfl) (fun _ _ _ h=>h) (Or.inl ⟨by rfl,fun w=>?_⟩) (Or.inr hS) ?_;rotate_left;focus (go_simp;first|done|with_reducible rfl|exact rfl));(try simp only [Act.put,zA,zB,zC,zD,zE,zF])
  (refine wpG_ldC (i:=1) [5,6] (v:=?_) rfl rfl (by kernel_rfl) (by kernel_rfl) (by kernel_rfl) (by kernel_rfl) (fun _ _ _ h=>h) (Or.inl ⟨by rfl,?_⟩) hS ?_;rotate_left;focus (intro w hSw;(try dsimp only at hSw);go_simp;first|done|with_reducible rfl|exact rfl));(try simp only [Act.put,zA,zB,zC,zD,zE,zF])
  (refine wpG_take (i:=2) (v:=?_) rfl rfl (by kernel_rfl) (by kernel_rfl) (by kernel_rfl) (fun _ _ _ h=>h) (Or.inl ⟨by rfl,fun w=>?_⟩) (Or.inr hS) ?_;rotate_left;focus (go_simp;first|done|with_reducible rfl|exact rfl));(try simp only [Act.put,zA,zB,zC,zD,zE,zF])
  (refine wpG_ldC (i:=3) [4,5,6] (v:=?_) rfl rfl (by kernel_rfl) (by kernel_rfl) (by kernel_rfl) (by kernel_rfl) (fun _ _ _ h=>h) (Or.inl ⟨by rfl,?_⟩) hS ?_;rotate_left;focus (intro w hSw;(try dsimp only at hSw);go_simp;first|done|with_reducible rfl|exact rfl));(try simp only [Act.put,zA,zB,zC,zD,zE,zF])
  refine wpG_one (i:=4) (by kernel_rfl) rfl (fun K hK=>?_);have HK:=Lib.hid hK;clear hK
  go_simp
  (with_reducible refine (NB.out _ B1.out).mono ?_)
  rintro e w2 ⟨rfl,hb⟩
  have B2:=Lib.hid (bl_then B1.out hb)
  have k2:=kb_keep hb K1.out
  have hS:w2.cell? ⟨W.heap.size,1,none⟩=some (.slice A n c)∧w2.cell? ⟨W.heap.size,2,none⟩=some (.int .i64 x):=⟨kb_cell k2 (i:=1) rfl,kb_cell k2 (i:=2) rfl⟩
  refine HK.out _ _ (Or.inr hS) ?_
  clear HK K hb
  (try simp only [Act.put,zA,zB,zC,zD,zE,zF])
  (refine wpG_take (i:=5) (v:=?_) rfl rfl (by kernel_rfl) (by kernel_rfl) (by kernel_rfl) (fun _ _ _ h=>h) (Or.inl ⟨by rfl,fun w=>?_⟩) (Or.inr hS) ?_;rotate_left;focus (go_simp;first|done|with_reducible rfl|exact rfl));(try simp only [Act.put,zA,zB,zC,zD,zE,zF])
  refine wpG_one (i:=6) (by kernel_rfl) rfl (fun K hK=>?_);have HK:=Lib.hid hK;clear hK;go_simp;refine HK.out _ _ (Or.inl (by kernel_rfl)) ?_;clear HK K;(try simp only [Act.put,zA,zB,zC,zD,zE,zF])
  refine wpG_done (by kernel_rfl) ?_ _
  go_wp2
  go_ret
  exact ⟨rfl,B2.out⟩
set_option maxHeartbeats 2000000 in
theorem less_s {W:World} {u v:Value} {k:Nat} {E z z':Int} (h:NS W u k E z) (h':NS W v k E z') (hs:Sz z) (hs':Sz z') (hk:k≤1000000) (hE:E≤1000000) :
    Calls Tryz.prog 73 #[u,v] W (ZPost k E (z + -z') W):=by
  have MI:Hid (∀ w,Below W.heap.size W w→Calls Tryz.prog 104 #[v] w (ZPost k E (-z') w)):=Lib.hid (fun w hb=>minus_s (h'.below hb))
  have PL:Hid (∀ w v,Below W.heap.size W w→NS w v k E (-z')→Calls Tryz.prog 55 #[u,v] w (ZPost k E (z + -z') w)):=Lib.hid (fun w v hb h2=>plus_s (h.below hb) h2 hs (by unfold Sz at *;rwa [Int.natAbs_neg]) hk hE)
  obtain ⟨g,A,n,c,x,rfl⟩:=h.agg
  obtain ⟨g',A',n',c',x',rfl⟩:=h'.agg
  clear h h' hs hs' hk hE
  have B0:=Lib.hid (bx_new W #[.bool g,.slice A n c,.int .i64 x] #[.bool g',.slice A' n' c',.int .i64 x'])
  have d0:=kb_cell B0.out.k0 (i:=0) rfl
  have d1:=kb_cell B0.out.k0 (i:=1) rfl
  have d2:=kb_cell B0.out.k0 (i:=2) rfl
  go_enter Tryz.func73,Tryz.ntmps73
  go_upto_region 1 with (fail)
  clear d0 d1 d2
  obtain ⟨w1,hw1⟩:∃ w,((W.alloc (.cells #[.bool g,.slice A n c,.int .i64 x] 53)).alloc (.cells #[.bool g',.slice A' n' c',.int .i64 x'] 53)).alloc nilN=w:=⟨_,rfl⟩
  rw [hw1] at B0
  simp only [hw1]
  clear hw1
  have hS:w1.drew.cell? ⟨W.heap.size,0,none⟩=some (.bool g)∧w1.drew.cell? ⟨W.heap.size,1,none⟩=some (.slice A n c)∧w1.drew.cell? ⟨W.heap.size,2,none⟩=some (.int .i64 x)∧w1.drew.cell? ⟨W.heap.size + 1,0,none⟩=some (.bool g')∧w1.drew.cell? ⟨W.heap.size + 1,1,none⟩=some (.slice A' n' c')∧w1.drew.cell? ⟨W.heap.size + 1,2,none⟩=some (.int .i64 x'):=⟨kb_cell B0.out.drew.k0 (i:=0) rfl,kb_cell B0.out.drew.k0 (i:=1) rfl,kb_cell B0.out.drew.k0 (i:=2) rfl,kb_cell B0.out.drew.k1 (i:=0) rfl,kb_cell B0.out.drew.k1 (i:=1) rfl,kb_cell B0.out.drew.k1 (i:=2) rfl⟩
  refine wp_region_G (g:=4) (S:=fun w'=>w'.cell? ⟨W.heap.size,0,none⟩=some (.bool g)∧w'.cell? ⟨W.heap.size,1,none⟩=some (.slice A n c)∧w'.cell? ⟨W.heap.size,2,none⟩=some (.int .i64 x)∧w'.cell? ⟨W.heap.size + 1,0,none⟩=some (.bool g')∧w'.cell? ⟨W.heap.size + 1,1,none⟩=some (.slice A' n' c')∧w'.cell? ⟨W.heap.size + 1,2,none⟩=some (.int .i64 x')) (by kernel_rfl) ?_
  have B1:=Lib.hid B0.out.drew
  obtain ⟨wd,hwd⟩:∃ w,w1.drew=w:=⟨_,rfl⟩
  rw [hwd] at hS B1
  rw [hwd]
  clear hwd
  (refine wpG_ldC (i:=0) [3,4] (v:=?_) rfl rfl (by kernel_rfl) (by kernel_rfl) (by kernel_rfl) (by kernel_rfl) (fun _ _ _ h=>h) (Or.inl ⟨by rfl,?_⟩) hS ?_;rotate_left;focus (intro w hSw;(try dsimp only at hSw);go_simp;first|done|with_reducible rfl|exact rfl));(try simp only [Act.put,zA,zB,zC,zD,zE,zF])
  (refine wpG_ldC (i:=1) [2,3,4] (v:=?_) rfl rfl (by kernel_rfl) (by kernel_rfl) (by kernel_rfl) (by kernel_rfl) (fun _ _ _ h=>h) (Or.inl ⟨by rfl,?_⟩) hS ?_;rotate_left;focus (intro w hSw;(try dsimp only at hSw);go_simp;first|done|with_reducible rfl|exact rfl));(try simp only [Act.put,zA,zB,zC,zD,zE,zF])
  refine wpG_one (i:=2) (by kernel_rfl) rfl (fun K hK=>?_);have HK:=Lib.hid hK;clear hK
  go_simp
  (with_reducible refine (MI.out _ B1.out.b).mono ?_)
  rintro e w2 ⟨r,rfl,hr,hb⟩
  have HR:=Lib.hid hr
  have B2:=Lib.hid (B1.out.then hb)
  refine HK.out _ _ (Or.inr ⟨kb_cell B2.out.k0 (i:=0) rfl,kb_cell B2.out.k0 (i:=1) rfl,kb_cell B2.out.k0 (i:=2) rfl,kb_cell B2.out.k1 (i:=0) rfl,kb_cell B2.out.k1 (i:=1) rfl,kb_cell B2.out.k1 (i:=2) rfl⟩) ?_
  clear HK K hr hb hS
  (try simp only [Act.put,zA,zB,zC,zD,zE,zF])
  refine wpG_one (i:=3) (by kernel_rfl) rfl (fun K hK=>?_);have HK:=Lib.hid hK;clear hK
  go_simp
  (with_reducible refine (PL.out _ _ B2.out.b HR.out).mono ?_)
  rintro e w3 ⟨r3,rfl,hr,hb⟩
  obtain ⟨g3,A3,n3,c3,x3,rfl⟩:=hr.agg
  have H3:=Lib.hid hr
  have B3:=Lib.hid (B2.out.then hb)
  refine HK.out _ _ (Or.inr ⟨kb_cell B3.out.k0 (i:=0) rfl,kb_cell B3.out.k0 (i:=1) rfl,kb_cell B3.out.k0 (i:=2) rfl,kb_cell B3.out.k1 (i:=0) rfl,kb_cell B3.out.k1 (i:=1) rfl,kb_cell B3.out.k1 (i:=2) rfl⟩) ?_
  clear HK K hr hb
  (try simp only [Act.put,zA,zB,zC,zD,zE,zF])
  have d0:=kb_cell B3.out.k2 (i:=0) rfl
  have d1:=kb_cell B3.out.k2 (i:=1) rfl
  have d2:=kb_cell B3.out.k2 (i:=2) rfl
  have f0:=kb_frozen B3.out.k2 0
  have f1:=kb_frozen B3.out.k2 1
  have f2:=kb_frozen B3.out.k2 2
  refine wpG_one (i:=4) (by kernel_rfl) rfl (fun K hK=>?_);have HK:=Lib.hid hK;clear hK;go_simp;refine HK.out _ _ (Or.inl (by kernel_rfl)) ?_;clear HK K;(try simp only [Act.put,zA,zB,zC,zD,zE,zF])
  refine wpG_done (by kernel_rfl) ?_ _
  go_wp2
  obtain ⟨z0,z1,z2,z3⟩:=B3.out.fin g3 (.slice A3 n3 c3) x3
  refine bodyPost_ret (v:=.agg #[.bool g3,.slice A3 n3 c3,.int .i64 x3]) (by simp [results,Tryz.results73,go_sem,z0,z1,z2]) rfl ?_
  exact ⟨_,rfl,H3.out.set3 B3.out.k2 (fun z h=>by cases h),z3⟩
theorem sgZ_eq (z:Int):sgZ z=sgnI z:=by unfold sgZ sgnI;(repeat' split) <;> omega
theorem cmp_sub (a b:Int):sgZ (a + -b)=cmpZ a b:=by unfold sgZ cmpZ;(repeat' split) <;> omega
theorem ns_abs {g:Bool} {m x z:Int} {k:Nat} (h0:0≤m) (hz:nz g m * 2 ^ (x + k).toNat=z):z.natAbs=m.toNat * 2 ^ (x + k).toNat:=by
  rw [← hz,Int.natAbs_mul,nz_abs g h0,Int.natAbs_pow,show (2:Int).natAbs=2 from rfl]
  congr 1
  omega
theorem ns_top {g g':Bool} {m m' x x' z z':Int} {k:Nat} (h0:0≤m) (hz:nz g m * 2 ^ (x + k).toNat=z) (h0':0≤m') (hz':nz g' m' * 2 ^ (x' + k).toNat=z') (hn:z' ≠ 0) (hx:-(k:Int)≤x) (hx':-(k:Int)≤x') (h:x + bl m.toNat < x' + bl m'.toNat):z.natAbs < z'.natAbs:=by
  rw [ns_abs h0 hz,ns_abs h0' hz']
  have hm':m'.toNat ≠ 0:=fun e=>hn (by rw [← hz',show m'=0 by omega];cases g' <;> simp [nz])
  have h1:m.toNat * 2 ^ (x + k).toNat < 2 ^ bl m.toNat * 2 ^ (x + k).toNat:=Nat.mul_lt_mul_of_pos_right (bl_lt _) (Nat.two_pow_pos _)
  have h2:2 ^ (bl m'.toNat - 1) * 2 ^ (x' + k).toNat≤m'.toNat * 2 ^ (x' + k).toNat:=Nat.mul_le_mul_right _ (bl_le hm')
  have hb:1≤bl m'.toNat:=by rw [bl_pos hm'];omega
  rw [← Nat.pow_add] at h1 h2
  have h3:2 ^ (bl m.toNat + (x + k).toNat)≤2 ^ (bl m'.toNat - 1 + (x' + k).toNat):=Nat.pow_le_pow_right (by decide) (by omega)
  omega
structure B2X (W w:World) (h:Nat) (c0 c1:Array Value):Prop where
  b:Below W.heap.size W w
  k0:w.heap[h]?=some (.cells c0 53 (0,0))
  k1:w.heap[h + 1]?=some (.cells c1 53 (0,0))
theorem B2X.then {W w w':World} {h:Nat} {c0 c1:Array Value} (k:B2X W w h c0 c1) (hb:Below w.heap.size w w'):B2X W w' h c0 c1:=⟨bl_then k.b hb,kb_keep hb k.k0,kb_keep hb k.k1⟩
theorem B2X.drew {W w:World} {h:Nat} {c0 c1:Array Value} (k:B2X W w h c0 c1):B2X W w.drew h c0 c1:=⟨bl_drew k.b,k.k0,k.k1⟩
theorem b2x_new (W:World) (c0 c1:Array Value):B2X W ((W.alloc (.cells c0 53)).alloc (.cells c1 53)) W.heap.size c0 c1 :=
  ⟨bl_alloc (bl_alloc (Below.refl _ _) _) _,kb_alloc (kb_new (Below.refl _ _)),two_y _ _ _⟩
set_option maxHeartbeats 8000000 in
theorem compare_s {W:World} {u v:Value} {k:Nat} {E z z':Int} (h:NS W u k E z) (h':NS W v k E z') (hs:Sz z) (hs':Sz z') (hsd:Sz (z + -z')) (hk:k≤1000000) (hE:E≤1000000) :
    Calls Tryz.prog 43 #[u,v] W fun e w'=>e=.returned (.int .i64 (cmpZ z z'))∧Below W.heap.size W w':=by
  have SA:Hid (∀ w,Below W.heap.size W w→Calls Tryz.prog 56 #[u] w fun e w'=>e=.returned (.int .i64 (sgnI z))∧Below w.heap.size w w'):=Lib.hid (fun w hb=>(sign_s (h.below hb) hs).mono fun _ _ h=>⟨by rw [h.1,sgZ_eq],h.2⟩)
  have SB:Hid (∀ w,Below W.heap.size W w→Calls Tryz.prog 56 #[v] w fun e w'=>e=.returned (.int .i64 (sgnI z'))∧Below w.heap.size w w'):=Lib.hid (fun w hb=>(sign_s (h'.below hb) hs').mono fun _ _ h=>⟨by rw [h.1,sgZ_eq],h.2⟩)
  have LE:Hid (∀ w,Below W.heap.size W w→Calls Tryz.prog 73 #[u,v] w (ZPost k E (z + -z') w)):=Lib.hid (fun w hb=>less_s (h.below hb) (h'.below hb) hs hs' hk hE)
  have SD:Hid (∀ w r,NS w r k E (z + -z')→Calls Tryz.prog 56 #[r] w fun e w'=>e=.returned (.int .i64 (cmpZ z z'))∧Below w.heap.size w w'):=Lib.hid (fun w r h=>(sign_s h hsd).mono fun _ _ h=>⟨by rw [h.1,cmp_sub],h.2⟩)
  obtain ⟨g,A,n,c,x,hu⟩:=h.agg
  obtain ⟨g',A',n',c',x',hv⟩:=h'.agg
  obtain ⟨g1,m,x1,h1,h2,h3,h4,h5⟩:=h
  obtain ⟨g1',m',x1',j1,j2,j3,j4,j5⟩:=h'
  have TA:Hid (∀ w,Below W.heap.size W w→Calls Tryz.prog 72 #[u] w fun e w'=>e=.returned (.int .i64 (x1 + bl m.toNat))∧Below w.heap.size w w'):=Lib.hid (fun w hb=>top_d (h1.below hb) (NS.small h2 h5 hs) (by omega))
  have TB:Hid (∀ w,Below W.heap.size W w→Calls Tryz.prog 72 #[v] w fun e w'=>e=.returned (.int .i64 (x1' + bl m'.toNat))∧Below w.heap.size w w'):=Lib.hid (fun w hb=>top_d (j1.below hb) (NS.small j2 j5 hs') (by omega))
  have tl:z' ≠ 0→x1 + bl m.toNat < x1' + bl m'.toNat→z.natAbs < z'.natAbs:=fun hn h=>ns_top h2 h5 j2 j5 hn h3 j3 h
  have tg:z ≠ 0→x1' + bl m'.toNat < x1 + bl m.toNat→z'.natAbs < z.natAbs:=fun hn h=>ns_top j2 j5 h2 h5 hn j3 h3 h
  obtain ⟨T,hT⟩:∃ T,x1 + (bl m.toNat:Int)=T:=⟨_,rfl⟩
  obtain ⟨U,hU⟩:∃ T,x1' + (bl m'.toNat:Int)=T:=⟨_,rfl⟩
  rw [hT] at TA tl tg
  rw [hU] at TB tl tg
  clear h1 h2 h3 h4 h5 j1 j2 j3 j4 j5 hs hs' hsd hT hU hk hE
  have z1:sgnI z ≠ 0→z ≠ 0:=fun h e=>h (by rw [e];rfl)
  have z2:sgnI z' ≠ 0→z' ≠ 0:=fun h e=>h (by rw [e];rfl)
  subst hu hv
  have Y0:=Lib.hid (b2x_new W #[.bool g,.slice A n c,.int .i64 x] #[.bool g',.slice A' n' c',.int .i64 x'])
  by_cases c1:sgnI z=sgnI z'
  · by_cases c2:sgnI z=0
    · have RS:=Lib.hid (cmp_zero c1 c2)
      rw [RS.out]
      rw [← c1,c2] at SB
      rw [c2] at SA
      clear z1 z2 c1 c2 RS TA TB LE SD tl tg
      go_enter Tryz.func43,Tryz.ntmps43
      go_upto_region 1 with (fail)
      obtain ⟨w1,hw1⟩:∃ w,((W.alloc (.cells #[.bool g,.slice A n c,.int .i64 x] 53)).alloc (.cells #[.bool g',.slice A' n' c',.int .i64 x'] 53))=w:=⟨_,rfl⟩
      rw [hw1] at Y0
      simp only [hw1]
      clear hw1
      have hS:w1.drew.cell? ⟨W.heap.size,0,none⟩=some (.bool g)∧w1.drew.cell? ⟨W.heap.size,1,none⟩=some (.slice A n c)∧w1.drew.cell? ⟨W.heap.size,2,none⟩=some (.int .i64 x)∧w1.drew.cell? ⟨W.heap.size + 1,0,none⟩=some (.bool g')∧w1.drew.cell? ⟨W.heap.size + 1,1,none⟩=some (.slice A' n' c')∧w1.drew.cell? ⟨W.heap.size + 1,2,none⟩=some (.int .i64 x'):=⟨kb_cell Y0.out.drew.k0 (i:=0) rfl,kb_cell Y0.out.drew.k0 (i:=1) rfl,kb_cell Y0.out.drew.k0 (i:=2) rfl,kb_cell Y0.out.drew.k1 (i:=0) rfl,kb_cell Y0.out.drew.k1 (i:=1) rfl,kb_cell Y0.out.drew.k1 (i:=2) rfl⟩
      refine wp_region_G (g:=3) (S:=fun w'=>w'.cell? ⟨W.heap.size,0,none⟩=some (.bool g)∧w'.cell? ⟨W.heap.size,1,none⟩=some (.slice A n c)∧w'.cell? ⟨W.heap.size,2,none⟩=some (.int .i64 x)∧w'.cell? ⟨W.heap.size + 1,0,none⟩=some (.bool g')∧w'.cell? ⟨W.heap.size + 1,1,none⟩=some (.slice A' n' c')∧w'.cell? ⟨W.heap.size + 1,2,none⟩=some (.int .i64 x')) (by kernel_rfl) ?_
      have YD:=Lib.hid Y0.out.drew
      obtain ⟨wd,hwd⟩:∃ w,w1.drew=w:=⟨_,rfl⟩
      rw [hwd] at hS YD
      rw [hwd]
      clear hwd
      (refine wpG_ldC (i:=0) [1,3] (v:=?_) rfl rfl (by kernel_rfl) (by kernel_rfl) (by kernel_rfl) (by kernel_rfl) (fun _ _ _ h=>h) (Or.inl ⟨by rfl,?_⟩) hS ?_;rotate_left;focus (intro w hSw;(try dsimp only at hSw);go_simp;first|done|with_reducible rfl|exact rfl));(try simp only [Act.put,zA,zB,zC,zD,zE,zF])
      (refine wpG_ld (i:=2) 3 (v:=?_) rfl rfl (by kernel_rfl) (by kernel_rfl) (by kernel_rfl) (by kernel_rfl) (fun _ _ _ h=>h) (Or.inl ⟨by rfl,?_⟩) hS ?_;rotate_left;focus (intro w hSw;(try dsimp only at hSw);go_simp;first|done|with_reducible rfl|exact rfl));(try simp only [Act.put,zA,zB,zC,zD,zE,zF])
      refine wpG_one (i:=1) (by kernel_rfl) rfl (fun K hK=>?_);have HK:=Lib.hid hK;clear hK
      go_simp
      (with_reducible refine (SA.out _ YD.out.b).mono ?_)
      rintro e wa ⟨rfl,hb⟩
      have Ywa:=Lib.hid (YD.out.then hb)
      refine HK.out _ _ (Or.inr ⟨kb_cell Ywa.out.k0 (i:=0) rfl,kb_cell Ywa.out.k0 (i:=1) rfl,kb_cell Ywa.out.k0 (i:=2) rfl,kb_cell Ywa.out.k1 (i:=0) rfl,kb_cell Ywa.out.k1 (i:=1) rfl,kb_cell Ywa.out.k1 (i:=2) rfl⟩) ?_
      clear hb hS HK K
      (try simp only [Act.put,zA,zB,zC,zD,zE,zF])
      refine wpG_one (i:=3) (by kernel_rfl) rfl (fun K hK=>?_);have HK:=Lib.hid hK;clear hK
      go_simp
      (with_reducible refine (SB.out _ Ywa.out.b).mono ?_)
      rintro e wb ⟨rfl,hb⟩
      have Ywb:=Lib.hid (Ywa.out.then hb)
      refine HK.out _ _ (Or.inl (by kernel_rfl)) ?_
      clear hb HK K
      (try simp only [Act.put,zA,zB,zC,zD,zE,zF])
      (refine wpG_take (i:=4) (v:=?_) rfl rfl (by kernel_rfl) (by kernel_rfl) (by kernel_rfl) (fun _ _ _ h=>h) (Or.inl ⟨by rfl,fun w=>?_⟩) (Or.inl (by kernel_rfl)) ?_;rotate_left;focus (go_simp;first|done|with_reducible rfl|exact rfl));(try simp only [Act.put,zA,zB,zC,zD,zE,zF]);(refine wpG_take (i:=5) (v:=?_) rfl rfl (by kernel_rfl) (by kernel_rfl) (by kernel_rfl) (fun _ _ _ h=>h) (Or.inl ⟨by rfl,fun w=>?_⟩) (Or.inl (by kernel_rfl)) ?_;rotate_left;focus (go_simp;first|done|with_reducible rfl|exact rfl));(try simp only [Act.put,zA,zB,zC,zD,zE,zF])
      refine wpG_done (by kernel_rfl) ?_ _
      go_wp2
      go_ret
      exact ⟨rfl,Ywb.out.b⟩
    · have n1:=z1 c2
      have n2:=z2 (c1 ▸ c2)
      have ns:(sgnI z == 0)=false:=by rw [beq_eq_false_iff_ne];exact c2
      have sr:sgnI z=1 ∨ sgnI z=-1:=by unfold sgnI at *;(repeat' split) <;> (repeat' split at c2) <;> omega
      have sw:wrap64 (-sgnI z)=-sgnI z:=by rcases sr with e|e <;> rw [e] <;> unfold wrap64 <;> omega
      rw [← c1] at SB
      rcases Int.lt_trichotomy T U with c3|c3|c3
      · have RS:=Lib.hid (cmp_abs c1 (tl n2 c3))
        rw [RS.out]
        have t1:decide (T < U)=true:=decide_eq_true c3
        obtain ⟨s,hs⟩:∃ s,sgnI z=s:=⟨_,rfl⟩
        rw [hs] at SA SB ns sw ⊢
        clear z1 z2 c1 c2 c3 RS LE SD tl tg n1 n2 sr hs
        go_enter Tryz.func43,Tryz.ntmps43
        go_upto_region 1 with (fail)
        obtain ⟨w1,hw1⟩:∃ w,((W.alloc (.cells #[.bool g,.slice A n c,.int .i64 x] 53)).alloc (.cells #[.bool g',.slice A' n' c',.int .i64 x'] 53))=w:=⟨_,rfl⟩
        rw [hw1] at Y0
        simp only [hw1]
        clear hw1
        have hS:w1.drew.cell? ⟨W.heap.size,0,none⟩=some (.bool g)∧w1.drew.cell? ⟨W.heap.size,1,none⟩=some (.slice A n c)∧w1.drew.cell? ⟨W.heap.size,2,none⟩=some (.int .i64 x)∧w1.drew.cell? ⟨W.heap.size + 1,0,none⟩=some (.bool g')∧w1.drew.cell? ⟨W.heap.size + 1,1,none⟩=some (.slice A' n' c')∧w1.drew.cell? ⟨W.heap.size + 1,2,none⟩=some (.int .i64 x'):=⟨kb_cell Y0.out.drew.k0 (i:=0) rfl,kb_cell Y0.out.drew.k0 (i:=1) rfl,kb_cell Y0.out.drew.k0 (i:=2) rfl,kb_cell Y0.out.drew.k1 (i:=0) rfl,kb_cell Y0.out.drew.k1 (i:=1) rfl,kb_cell Y0.out.drew.k1 (i:=2) rfl⟩
        refine wp_region_G (g:=3) (S:=fun w'=>w'.cell? ⟨W.heap.size,0,none⟩=some (.bool g)∧w'.cell? ⟨W.heap.size,1,none⟩=some (.slice A n c)∧w'.cell? ⟨W.heap.size,2,none⟩=some (.int .i64 x)∧w'.cell? ⟨W.heap.size + 1,0,none⟩=some (.bool g')∧w'.cell? ⟨W.heap.size + 1,1,none⟩=some (.slice A' n' c')∧w'.cell? ⟨W.heap.size + 1,2,none⟩=some (.int .i64 x')) (by kernel_rfl) ?_
        have YD:=Lib.hid Y0.out.drew
        obtain ⟨wd,hwd⟩:∃ w,w1.drew=w:=⟨_,rfl⟩
        rw [hwd] at hS YD
        rw [hwd]
        clear hwd
        (refine wpG_ldC (i:=0) [1,3] (v:=?_) rfl rfl (by kernel_rfl) (by kernel_rfl) (by kernel_rfl) (by kernel_rfl) (fun _ _ _ h=>h) (Or.inl ⟨by rfl,?_⟩) hS ?_;rotate_left;focus (intro w hSw;(try dsimp only at hSw);go_simp;first|done|with_reducible rfl|exact rfl));(try simp only [Act.put,zA,zB,zC,zD,zE,zF])
        (refine wpG_ld (i:=2) 3 (v:=?_) rfl rfl (by kernel_rfl) (by kernel_rfl) (by kernel_rfl) (by kernel_rfl) (fun _ _ _ h=>h) (Or.inl ⟨by rfl,?_⟩) hS ?_;rotate_left;focus (intro w hSw;(try dsimp only at hSw);go_simp;first|done|with_reducible rfl|exact rfl));(try simp only [Act.put,zA,zB,zC,zD,zE,zF])
        refine wpG_one (i:=1) (by kernel_rfl) rfl (fun K hK=>?_);have HK:=Lib.hid hK;clear hK
        go_simp
        (with_reducible refine (SA.out _ YD.out.b).mono ?_)
        rintro e wa ⟨rfl,hb⟩
        have Ywa:=Lib.hid (YD.out.then hb)
        refine HK.out _ _ (Or.inr ⟨kb_cell Ywa.out.k0 (i:=0) rfl,kb_cell Ywa.out.k0 (i:=1) rfl,kb_cell Ywa.out.k0 (i:=2) rfl,kb_cell Ywa.out.k1 (i:=0) rfl,kb_cell Ywa.out.k1 (i:=1) rfl,kb_cell Ywa.out.k1 (i:=2) rfl⟩) ?_
        clear hb hS HK K
        (try simp only [Act.put,zA,zB,zC,zD,zE,zF])
        refine wpG_one (i:=3) (by kernel_rfl) rfl (fun K hK=>?_);have HK:=Lib.hid hK;clear hK
        go_simp
        (with_reducible refine (SB.out _ Ywa.out.b).mono ?_)
        rintro e wb ⟨rfl,hb⟩
        have Ywb:=Lib.hid (Ywa.out.then hb)
        refine HK.out _ _ (Or.inl (by kernel_rfl)) ?_
        clear hb HK K
        (try simp only [Act.put,zA,zB,zC,zD,zE,zF])
        (refine wpG_take (i:=4) (v:=?_) rfl rfl (by kernel_rfl) (by kernel_rfl) (by kernel_rfl) (fun _ _ _ h=>h) (Or.inl ⟨by rfl,fun w=>?_⟩) (Or.inl (by kernel_rfl)) ?_;rotate_left;focus (go_simp;first|done|with_reducible rfl|exact rfl));(try simp only [Act.put,zA,zB,zC,zD,zE,zF]);(refine wpG_take (i:=5) (v:=?_) rfl rfl (by kernel_rfl) (by kernel_rfl) (by kernel_rfl) (fun _ _ _ h=>h) (Or.inl ⟨by rfl,fun w=>?_⟩) (Or.inl (by kernel_rfl)) ?_;rotate_left;focus (go_simp;first|done|with_reducible rfl|exact rfl));(try simp only [Act.put,zA,zB,zC,zD,zE,zF])
        refine wpG_done (by kernel_rfl) ?_ _
        go_upto_region 8 with (fail)
        have hS:wb.drew.cell? ⟨W.heap.size,0,none⟩=some (.bool g)∧wb.drew.cell? ⟨W.heap.size,1,none⟩=some (.slice A n c)∧wb.drew.cell? ⟨W.heap.size,2,none⟩=some (.int .i64 x)∧wb.drew.cell? ⟨W.heap.size + 1,0,none⟩=some (.bool g')∧wb.drew.cell? ⟨W.heap.size + 1,1,none⟩=some (.slice A' n' c')∧wb.drew.cell? ⟨W.heap.size + 1,2,none⟩=some (.int .i64 x'):=⟨kb_cell Ywb.out.drew.k0 (i:=0) rfl,kb_cell Ywb.out.drew.k0 (i:=1) rfl,kb_cell Ywb.out.drew.k0 (i:=2) rfl,kb_cell Ywb.out.drew.k1 (i:=0) rfl,kb_cell Ywb.out.drew.k1 (i:=1) rfl,kb_cell Ywb.out.drew.k1 (i:=2) rfl⟩
        refine wp_region_G (g:=3) (S:=fun w'=>w'.cell? ⟨W.heap.size,0,none⟩=some (.bool g)∧w'.cell? ⟨W.heap.size,1,none⟩=some (.slice A n c)∧w'.cell? ⟨W.heap.size,2,none⟩=some (.int .i64 x)∧w'.cell? ⟨W.heap.size + 1,0,none⟩=some (.bool g')∧w'.cell? ⟨W.heap.size + 1,1,none⟩=some (.slice A' n' c')∧w'.cell? ⟨W.heap.size + 1,2,none⟩=some (.int .i64 x')) (by kernel_rfl) ?_
        have YD:=Lib.hid Ywb.out.drew
        obtain ⟨wd,hwd⟩:∃ w,wb.drew=w:=⟨_,rfl⟩
        rw [hwd] at hS YD
        rw [hwd]
        clear hwd
        (refine wpG_ldC (i:=0) [1,3] (v:=?_) rfl rfl (by kernel_rfl) (by kernel_rfl) (by kernel_rfl) (by kernel_rfl) (fun _ _ _ h=>h) (Or.inl ⟨by rfl,?_⟩) hS ?_;rotate_left;focus (intro w hSw;(try dsimp only at hSw);go_simp;first|done|with_reducible rfl|exact rfl));(try simp only [Act.put,zA,zB,zC,zD,zE,zF])
        (refine wpG_ld (i:=2) 3 (v:=?_) rfl rfl (by kernel_rfl) (by kernel_rfl) (by kernel_rfl) (by kernel_rfl) (fun _ _ _ h=>h) (Or.inl ⟨by rfl,?_⟩) hS ?_;rotate_left;focus (intro w hSw;(try dsimp only at hSw);go_simp;first|done|with_reducible rfl|exact rfl));(try simp only [Act.put,zA,zB,zC,zD,zE,zF])
        refine wpG_one (i:=1) (by kernel_rfl) rfl (fun K hK=>?_);have HK:=Lib.hid hK;clear hK
        go_simp
        (with_reducible refine (TA.out _ YD.out.b).mono ?_)
        rintro e wc ⟨rfl,hb⟩
        have Ywc:=Lib.hid (YD.out.then hb)
        refine HK.out _ _ (Or.inr ⟨kb_cell Ywc.out.k0 (i:=0) rfl,kb_cell Ywc.out.k0 (i:=1) rfl,kb_cell Ywc.out.k0 (i:=2) rfl,kb_cell Ywc.out.k1 (i:=0) rfl,kb_cell Ywc.out.k1 (i:=1) rfl,kb_cell Ywc.out.k1 (i:=2) rfl⟩) ?_
        clear hb hS HK K
        (try simp only [Act.put,zA,zB,zC,zD,zE,zF])
        refine wpG_one (i:=3) (by kernel_rfl) rfl (fun K hK=>?_);have HK:=Lib.hid hK;clear hK
        go_simp
        (with_reducible refine (TB.out _ Ywc.out.b).mono ?_)
        rintro e we ⟨rfl,hb⟩
        have Ywe:=Lib.hid (Ywc.out.then hb)
        refine HK.out _ _ (Or.inl (by kernel_rfl)) ?_
        clear hb HK K
        (try simp only [Act.put,zA,zB,zC,zD,zE,zF])
        (refine wpG_take (i:=4) (v:=?_) rfl rfl (by kernel_rfl) (by kernel_rfl) (by kernel_rfl) (fun _ _ _ h=>h) (Or.inl ⟨by rfl,fun w=>?_⟩) (Or.inl (by kernel_rfl)) ?_;rotate_left;focus (go_simp;first|done|with_reducible rfl|exact rfl));(try simp only [Act.put,zA,zB,zC,zD,zE,zF]);(refine wpG_take (i:=5) (v:=?_) rfl rfl (by kernel_rfl) (by kernel_rfl) (by kernel_rfl) (fun _ _ _ h=>h) (Or.inl ⟨by rfl,fun w=>?_⟩) (Or.inl (by kernel_rfl)) ?_;rotate_left;focus (go_simp;first|done|with_reducible rfl|exact rfl));(try simp only [Act.put,zA,zB,zC,zD,zE,zF])
        refine wpG_done (by kernel_rfl) ?_ _
        go_wp2
        go_ret
        exact ⟨ret_int (by first|exact sw|rfl),Ywe.out.b⟩
      · have t1:decide (T < U)=false:=decide_eq_false (by omega)
        have t2:decide (U < T)=false:=decide_eq_false (by omega)
        obtain ⟨s,hs⟩:∃ s,sgnI z=s:=⟨_,rfl⟩
        rw [hs] at SA SB ns sw
        clear z1 z2 c1 c2 c3 tl tg n1 n2 sr hs
        go_enter Tryz.func43,Tryz.ntmps43
        go_upto_region 1 with (fail)
        obtain ⟨w1,hw1⟩:∃ w,((W.alloc (.cells #[.bool g,.slice A n c,.int .i64 x] 53)).alloc (.cells #[.bool g',.slice A' n' c',.int .i64 x'] 53))=w:=⟨_,rfl⟩
        rw [hw1] at Y0
        simp only [hw1]
        clear hw1
        have hS:w1.drew.cell? ⟨W.heap.size,0,none⟩=some (.bool g)∧w1.drew.cell? ⟨W.heap.size,1,none⟩=some (.slice A n c)∧w1.drew.cell? ⟨W.heap.size,2,none⟩=some (.int .i64 x)∧w1.drew.cell? ⟨W.heap.size + 1,0,none⟩=some (.bool g')∧w1.drew.cell? ⟨W.heap.size + 1,1,none⟩=some (.slice A' n' c')∧w1.drew.cell? ⟨W.heap.size + 1,2,none⟩=some (.int .i64 x'):=⟨kb_cell Y0.out.drew.k0 (i:=0) rfl,kb_cell Y0.out.drew.k0 (i:=1) rfl,kb_cell Y0.out.drew.k0 (i:=2) rfl,kb_cell Y0.out.drew.k1 (i:=0) rfl,kb_cell Y0.out.drew.k1 (i:=1) rfl,kb_cell Y0.out.drew.k1 (i:=2) rfl⟩
        refine wp_region_G (g:=3) (S:=fun w'=>w'.cell? ⟨W.heap.size,0,none⟩=some (.bool g)∧w'.cell? ⟨W.heap.size,1,none⟩=some (.slice A n c)∧w'.cell? ⟨W.heap.size,2,none⟩=some (.int .i64 x)∧w'.cell? ⟨W.heap.size + 1,0,none⟩=some (.bool g')∧w'.cell? ⟨W.heap.size + 1,1,none⟩=some (.slice A' n' c')∧w'.cell? ⟨W.heap.size + 1,2,none⟩=some (.int .i64 x')) (by kernel_rfl) ?_
        have YD:=Lib.hid Y0.out.drew
        obtain ⟨wd,hwd⟩:∃ w,w1.drew=w:=⟨_,rfl⟩
        rw [hwd] at hS YD
        rw [hwd]
        clear hwd
        (refine wpG_ldC (i:=0) [1,3] (v:=?_) rfl rfl (by kernel_rfl) (by kernel_rfl) (by kernel_rfl) (by kernel_rfl) (fun _ _ _ h=>h) (Or.inl ⟨by rfl,?_⟩) hS ?_;rotate_left;focus (intro w hSw;(try dsimp only at hSw);go_simp;first|done|with_reducible rfl|exact rfl));(try simp only [Act.put,zA,zB,zC,zD,zE,zF])
        (refine wpG_ld (i:=2) 3 (v:=?_) rfl rfl (by kernel_rfl) (by kernel_rfl) (by kernel_rfl) (by kernel_rfl) (fun _ _ _ h=>h) (Or.inl ⟨by rfl,?_⟩) hS ?_;rotate_left;focus (intro w hSw;(try dsimp only at hSw);go_simp;first|done|with_reducible rfl|exact rfl));(try simp only [Act.put,zA,zB,zC,zD,zE,zF])
        refine wpG_one (i:=1) (by kernel_rfl) rfl (fun K hK=>?_);have HK:=Lib.hid hK;clear hK
        go_simp
        (with_reducible refine (SA.out _ YD.out.b).mono ?_)
        rintro e wa ⟨rfl,hb⟩
        have Ywa:=Lib.hid (YD.out.then hb)
        refine HK.out _ _ (Or.inr ⟨kb_cell Ywa.out.k0 (i:=0) rfl,kb_cell Ywa.out.k0 (i:=1) rfl,kb_cell Ywa.out.k0 (i:=2) rfl,kb_cell Ywa.out.k1 (i:=0) rfl,kb_cell Ywa.out.k1 (i:=1) rfl,kb_cell Ywa.out.k1 (i:=2) rfl⟩) ?_
        clear hb hS HK K
        (try simp only [Act.put,zA,zB,zC,zD,zE,zF])
        refine wpG_one (i:=3) (by kernel_rfl) rfl (fun K hK=>?_);have HK:=Lib.hid hK;clear hK
        go_simp
        (with_reducible refine (SB.out _ Ywa.out.b).mono ?_)
        rintro e wb ⟨rfl,hb⟩
        have Ywb:=Lib.hid (Ywa.out.then hb)
        refine HK.out _ _ (Or.inl (by kernel_rfl)) ?_
        clear hb HK K
        (try simp only [Act.put,zA,zB,zC,zD,zE,zF])
        (refine wpG_take (i:=4) (v:=?_) rfl rfl (by kernel_rfl) (by kernel_rfl) (by kernel_rfl) (fun _ _ _ h=>h) (Or.inl ⟨by rfl,fun w=>?_⟩) (Or.inl (by kernel_rfl)) ?_;rotate_left;focus (go_simp;first|done|with_reducible rfl|exact rfl));(try simp only [Act.put,zA,zB,zC,zD,zE,zF]);(refine wpG_take (i:=5) (v:=?_) rfl rfl (by kernel_rfl) (by kernel_rfl) (by kernel_rfl) (fun _ _ _ h=>h) (Or.inl ⟨by rfl,fun w=>?_⟩) (Or.inl (by kernel_rfl)) ?_;rotate_left;focus (go_simp;first|done|with_reducible rfl|exact rfl));(try simp only [Act.put,zA,zB,zC,zD,zE,zF])
        refine wpG_done (by kernel_rfl) ?_ _
        go_upto_region 8 with (fail)
        have hS:wb.drew.cell? ⟨W.heap.size,0,none⟩=some (.bool g)∧wb.drew.cell? ⟨W.heap.size,1,none⟩=some (.slice A n c)∧wb.drew.cell? ⟨W.heap.size,2,none⟩=some (.int .i64 x)∧wb.drew.cell? ⟨W.heap.size + 1,0,none⟩=some (.bool g')∧wb.drew.cell? ⟨W.heap.size + 1,1,none⟩=some (.slice A' n' c')∧wb.drew.cell? ⟨W.heap.size + 1,2,none⟩=some (.int .i64 x'):=⟨kb_cell Ywb.out.drew.k0 (i:=0) rfl,kb_cell Ywb.out.drew.k0 (i:=1) rfl,kb_cell Ywb.out.drew.k0 (i:=2) rfl,kb_cell Ywb.out.drew.k1 (i:=0) rfl,kb_cell Ywb.out.drew.k1 (i:=1) rfl,kb_cell Ywb.out.drew.k1 (i:=2) rfl⟩
        refine wp_region_G (g:=3) (S:=fun w'=>w'.cell? ⟨W.heap.size,0,none⟩=some (.bool g)∧w'.cell? ⟨W.heap.size,1,none⟩=some (.slice A n c)∧w'.cell? ⟨W.heap.size,2,none⟩=some (.int .i64 x)∧w'.cell? ⟨W.heap.size + 1,0,none⟩=some (.bool g')∧w'.cell? ⟨W.heap.size + 1,1,none⟩=some (.slice A' n' c')∧w'.cell? ⟨W.heap.size + 1,2,none⟩=some (.int .i64 x')) (by kernel_rfl) ?_
        have YD:=Lib.hid Ywb.out.drew
        obtain ⟨wd,hwd⟩:∃ w,wb.drew=w:=⟨_,rfl⟩
        rw [hwd] at hS YD
        rw [hwd]
        clear hwd
        (refine wpG_ldC (i:=0) [1,3] (v:=?_) rfl rfl (by kernel_rfl) (by kernel_rfl) (by kernel_rfl) (by kernel_rfl) (fun _ _ _ h=>h) (Or.inl ⟨by rfl,?_⟩) hS ?_;rotate_left;focus (intro w hSw;(try dsimp only at hSw);go_simp;first|done|with_reducible rfl|exact rfl));(try simp only [Act.put,zA,zB,zC,zD,zE,zF])
        (refine wpG_ld (i:=2) 3 (v:=?_) rfl rfl (by kernel_rfl) (by kernel_rfl) (by kernel_rfl) (by kernel_rfl) (fun _ _ _ h=>h) (Or.inl ⟨by rfl,?_⟩) hS ?_;rotate_left;focus (intro w hSw;(try dsimp only at hSw);go_simp;first|done|with_reducible rfl|exact rfl));(try simp only [Act.put,zA,zB,zC,zD,zE,zF])
        refine wpG_one (i:=1) (by kernel_rfl) rfl (fun K hK=>?_);have HK:=Lib.hid hK;clear hK
        go_simp
        (with_reducible refine (TA.out _ YD.out.b).mono ?_)
        rintro e wc ⟨rfl,hb⟩
        have Ywc:=Lib.hid (YD.out.then hb)
        refine HK.out _ _ (Or.inr ⟨kb_cell Ywc.out.k0 (i:=0) rfl,kb_cell Ywc.out.k0 (i:=1) rfl,kb_cell Ywc.out.k0 (i:=2) rfl,kb_cell Ywc.out.k1 (i:=0) rfl,kb_cell Ywc.out.k1 (i:=1) rfl,kb_cell Ywc.out.k1 (i:=2) rfl⟩) ?_
        clear hb hS HK K
        (try simp only [Act.put,zA,zB,zC,zD,zE,zF])
        refine wpG_one (i:=3) (by kernel_rfl) rfl (fun K hK=>?_);have HK:=Lib.hid hK;clear hK
        go_simp
        (with_reducible refine (TB.out _ Ywc.out.b).mono ?_)
        rintro e we ⟨rfl,hb⟩
        have Ywe:=Lib.hid (Ywc.out.then hb)
        refine HK.out _ _ (Or.inl (by kernel_rfl)) ?_
        clear hb HK K
        (try simp only [Act.put,zA,zB,zC,zD,zE,zF])
        (refine wpG_take (i:=4) (v:=?_) rfl rfl (by kernel_rfl) (by kernel_rfl) (by kernel_rfl) (fun _ _ _ h=>h) (Or.inl ⟨by rfl,fun w=>?_⟩) (Or.inl (by kernel_rfl)) ?_;rotate_left;focus (go_simp;first|done|with_reducible rfl|exact rfl));(try simp only [Act.put,zA,zB,zC,zD,zE,zF]);(refine wpG_take (i:=5) (v:=?_) rfl rfl (by kernel_rfl) (by kernel_rfl) (by kernel_rfl) (fun _ _ _ h=>h) (Or.inl ⟨by rfl,fun w=>?_⟩) (Or.inl (by kernel_rfl)) ?_;rotate_left;focus (go_simp;first|done|with_reducible rfl|exact rfl));(try simp only [Act.put,zA,zB,zC,zD,zE,zF])
        refine wpG_done (by kernel_rfl) ?_ _
        go_upto_region 10 with (fail)
        have hS:we.drew.cell? ⟨W.heap.size,0,none⟩=some (.bool g)∧we.drew.cell? ⟨W.heap.size,1,none⟩=some (.slice A n c)∧we.drew.cell? ⟨W.heap.size,2,none⟩=some (.int .i64 x)∧we.drew.cell? ⟨W.heap.size + 1,0,none⟩=some (.bool g')∧we.drew.cell? ⟨W.heap.size + 1,1,none⟩=some (.slice A' n' c')∧we.drew.cell? ⟨W.heap.size + 1,2,none⟩=some (.int .i64 x'):=⟨kb_cell Ywe.out.drew.k0 (i:=0) rfl,kb_cell Ywe.out.drew.k0 (i:=1) rfl,kb_cell Ywe.out.drew.k0 (i:=2) rfl,kb_cell Ywe.out.drew.k1 (i:=0) rfl,kb_cell Ywe.out.drew.k1 (i:=1) rfl,kb_cell Ywe.out.drew.k1 (i:=2) rfl⟩
        refine wp_region_G (g:=3) (S:=fun w'=>w'.cell? ⟨W.heap.size,0,none⟩=some (.bool g)∧w'.cell? ⟨W.heap.size,1,none⟩=some (.slice A n c)∧w'.cell? ⟨W.heap.size,2,none⟩=some (.int .i64 x)∧w'.cell? ⟨W.heap.size + 1,0,none⟩=some (.bool g')∧w'.cell? ⟨W.heap.size + 1,1,none⟩=some (.slice A' n' c')∧w'.cell? ⟨W.heap.size + 1,2,none⟩=some (.int .i64 x')) (by kernel_rfl) ?_
        have YD:=Lib.hid Ywe.out.drew
        obtain ⟨wd,hwd⟩:∃ w,we.drew=w:=⟨_,rfl⟩
        rw [hwd] at hS YD
        rw [hwd]
        clear hwd
        (refine wpG_ldC (i:=0) [1,3] (v:=?_) rfl rfl (by kernel_rfl) (by kernel_rfl) (by kernel_rfl) (by kernel_rfl) (fun _ _ _ h=>h) (Or.inl ⟨by rfl,?_⟩) hS ?_;rotate_left;focus (intro w hSw;(try dsimp only at hSw);go_simp;first|done|with_reducible rfl|exact rfl));(try simp only [Act.put,zA,zB,zC,zD,zE,zF])
        (refine wpG_ld (i:=2) 3 (v:=?_) rfl rfl (by kernel_rfl) (by kernel_rfl) (by kernel_rfl) (by kernel_rfl) (fun _ _ _ h=>h) (Or.inl ⟨by rfl,?_⟩) hS ?_;rotate_left;focus (intro w hSw;(try dsimp only at hSw);go_simp;first|done|with_reducible rfl|exact rfl));(try simp only [Act.put,zA,zB,zC,zD,zE,zF])
        refine wpG_one (i:=1) (by kernel_rfl) rfl (fun K hK=>?_);have HK:=Lib.hid hK;clear hK
        go_simp
        (with_reducible refine (TA.out _ YD.out.b).mono ?_)
        rintro e wf ⟨rfl,hb⟩
        have Ywf:=Lib.hid (YD.out.then hb)
        refine HK.out _ _ (Or.inr ⟨kb_cell Ywf.out.k0 (i:=0) rfl,kb_cell Ywf.out.k0 (i:=1) rfl,kb_cell Ywf.out.k0 (i:=2) rfl,kb_cell Ywf.out.k1 (i:=0) rfl,kb_cell Ywf.out.k1 (i:=1) rfl,kb_cell Ywf.out.k1 (i:=2) rfl⟩) ?_
        clear hb hS HK K
        (try simp only [Act.put,zA,zB,zC,zD,zE,zF])
        refine wpG_one (i:=3) (by kernel_rfl) rfl (fun K hK=>?_);have HK:=Lib.hid hK;clear hK
        go_simp
        (with_reducible refine (TB.out _ Ywf.out.b).mono ?_)
        rintro e wg ⟨rfl,hb⟩
        have Ywg:=Lib.hid (Ywf.out.then hb)
        refine HK.out _ _ (Or.inl (by kernel_rfl)) ?_
        clear hb HK K
        (try simp only [Act.put,zA,zB,zC,zD,zE,zF])
        (refine wpG_take (i:=4) (v:=?_) rfl rfl (by kernel_rfl) (by kernel_rfl) (by kernel_rfl) (fun _ _ _ h=>h) (Or.inl ⟨by rfl,fun w=>?_⟩) (Or.inl (by kernel_rfl)) ?_;rotate_left;focus (go_simp;first|done|with_reducible rfl|exact rfl));(try simp only [Act.put,zA,zB,zC,zD,zE,zF]);(refine wpG_take (i:=5) (v:=?_) rfl rfl (by kernel_rfl) (by kernel_rfl) (by kernel_rfl) (fun _ _ _ h=>h) (Or.inl ⟨by rfl,fun w=>?_⟩) (Or.inl (by kernel_rfl)) ?_;rotate_left;focus (go_simp;first|done|with_reducible rfl|exact rfl));(try simp only [Act.put,zA,zB,zC,zD,zE,zF])
        refine wpG_done (by kernel_rfl) ?_ _
        have d0:=kb_cell Ywg.out.k0 (i:=0) rfl;have d1:=kb_cell Ywg.out.k0 (i:=1) rfl;have d2:=kb_cell Ywg.out.k0 (i:=2) rfl;have e0:=kb_cell Ywg.out.k1 (i:=0) rfl;have e1:=kb_cell Ywg.out.k1 (i:=1) rfl;have e2:=kb_cell Ywg.out.k1 (i:=2) rfl
        go_wp2_with (first
          | (go_at_call 73;(with_reducible refine (LE.out _ Ywg.out.b).mono ?_);rintro e wh ⟨r,rfl,hr,hb⟩;have HR:=Lib.hid hr;have BH:=Lib.hid (bl_then Ywg.out.b hb);clear hr hb)
          | (go_at_call 56;(with_reducible refine (SD.out _ _ HR.out).mono ?_);rintro e wi ⟨rfl,hb⟩;have BI:=Lib.hid (bl_then BH.out hb);clear hb))
        go_ret
        exact ⟨rfl,BI.out⟩
      · have RS:=Lib.hid (cmp_abs2 c1 (tg n1 c3))
        rw [RS.out]
        have t1:decide (T < U)=false:=decide_eq_false (by omega)
        have t2:decide (U < T)=true:=decide_eq_true c3
        obtain ⟨s,hs⟩:∃ s,sgnI z=s:=⟨_,rfl⟩
        rw [hs] at SA SB ns sw ⊢
        clear z1 z2 c1 c2 c3 RS LE SD tl tg n1 n2 sr hs
        go_enter Tryz.func43,Tryz.ntmps43
        go_upto_region 1 with (fail)
        obtain ⟨w1,hw1⟩:∃ w,((W.alloc (.cells #[.bool g,.slice A n c,.int .i64 x] 53)).alloc (.cells #[.bool g',.slice A' n' c',.int .i64 x'] 53))=w:=⟨_,rfl⟩
        rw [hw1] at Y0
        simp only [hw1]
        clear hw1
        have hS:w1.drew.cell? ⟨W.heap.size,0,none⟩=some (.bool g)∧w1.drew.cell? ⟨W.heap.size,1,none⟩=some (.slice A n c)∧w1.drew.cell? ⟨W.heap.size,2,none⟩=some (.int .i64 x)∧w1.drew.cell? ⟨W.heap.size + 1,0,none⟩=some (.bool g')∧w1.drew.cell? ⟨W.heap.size + 1,1,none⟩=some (.slice A' n' c')∧w1.drew.cell? ⟨W.heap.size + 1,2,none⟩=some (.int .i64 x'):=⟨kb_cell Y0.out.drew.k0 (i:=0) rfl,kb_cell Y0.out.drew.k0 (i:=1) rfl,kb_cell Y0.out.drew.k0 (i:=2) rfl,kb_cell Y0.out.drew.k1 (i:=0) rfl,kb_cell Y0.out.drew.k1 (i:=1) rfl,kb_cell Y0.out.drew.k1 (i:=2) rfl⟩
        refine wp_region_G (g:=3) (S:=fun w'=>w'.cell? ⟨W.heap.size,0,none⟩=some (.bool g)∧w'.cell? ⟨W.heap.size,1,none⟩=some (.slice A n c)∧w'.cell? ⟨W.heap.size,2,none⟩=some (.int .i64 x)∧w'.cell? ⟨W.heap.size + 1,0,none⟩=some (.bool g')∧w'.cell? ⟨W.heap.size + 1,1,none⟩=some (.slice A' n' c')∧w'.cell? ⟨W.heap.size + 1,2,none⟩=some (.int .i64 x')) (by kernel_rfl) ?_
        have YD:=Lib.hid Y0.out.drew
        obtain ⟨wd,hwd⟩:∃ w,w1.drew=w:=⟨_,rfl⟩
        rw [hwd] at hS YD
        rw [hwd]
        clear hwd
        (refine wpG_ldC (i:=0) [1,3] (v:=?_) rfl rfl (by kernel_rfl) (by kernel_rfl) (by kernel_rfl) (by kernel_rfl) (fun _ _ _ h=>h) (Or.inl ⟨by rfl,?_⟩) hS ?_;rotate_left;focus (intro w hSw;(try dsimp only at hSw);go_simp;first|done|with_reducible rfl|exact rfl));(try simp only [Act.put,zA,zB,zC,zD,zE,zF])
        (refine wpG_ld (i:=2) 3 (v:=?_) rfl rfl (by kernel_rfl) (by kernel_rfl) (by kernel_rfl) (by kernel_rfl) (fun _ _ _ h=>h) (Or.inl ⟨by rfl,?_⟩) hS ?_;rotate_left;focus (intro w hSw;(try dsimp only at hSw);go_simp;first|done|with_reducible rfl|exact rfl));(try simp only [Act.put,zA,zB,zC,zD,zE,zF])
        refine wpG_one (i:=1) (by kernel_rfl) rfl (fun K hK=>?_);have HK:=Lib.hid hK;clear hK
        go_simp
        (with_reducible refine (SA.out _ YD.out.b).mono ?_)
        rintro e wa ⟨rfl,hb⟩
        have Ywa:=Lib.hid (YD.out.then hb)
        refine HK.out _ _ (Or.inr ⟨kb_cell Ywa.out.k0 (i:=0) rfl,kb_cell Ywa.out.k0 (i:=1) rfl,kb_cell Ywa.out.k0 (i:=2) rfl,kb_cell Ywa.out.k1 (i:=0) rfl,kb_cell Ywa.out.k1 (i:=1) rfl,kb_cell Ywa.out.k1 (i:=2) rfl⟩) ?_
        clear hb hS HK K
        (try simp only [Act.put,zA,zB,zC,zD,zE,zF])
        refine wpG_one (i:=3) (by kernel_rfl) rfl (fun K hK=>?_);have HK:=Lib.hid hK;clear hK
        go_simp
        (with_reducible refine (SB.out _ Ywa.out.b).mono ?_)
        rintro e wb ⟨rfl,hb⟩
        have Ywb:=Lib.hid (Ywa.out.then hb)
        refine HK.out _ _ (Or.inl (by kernel_rfl)) ?_
        clear hb HK K
        (try simp only [Act.put,zA,zB,zC,zD,zE,zF])
        (refine wpG_take (i:=4) (v:=?_) rfl rfl (by kernel_rfl) (by kernel_rfl) (by kernel_rfl) (fun _ _ _ h=>h) (Or.inl ⟨by rfl,fun w=>?_⟩) (Or.inl (by kernel_rfl)) ?_;rotate_left;focus (go_simp;first|done|with_reducible rfl|exact rfl));(try simp only [Act.put,zA,zB,zC,zD,zE,zF]);(refine wpG_take (i:=5) (v:=?_) rfl rfl (by kernel_rfl) (by kernel_rfl) (by kernel_rfl) (fun _ _ _ h=>h) (Or.inl ⟨by rfl,fun w=>?_⟩) (Or.inl (by kernel_rfl)) ?_;rotate_left;focus (go_simp;first|done|with_reducible rfl|exact rfl));(try simp only [Act.put,zA,zB,zC,zD,zE,zF])
        refine wpG_done (by kernel_rfl) ?_ _
        go_upto_region 8 with (fail)
        have hS:wb.drew.cell? ⟨W.heap.size,0,none⟩=some (.bool g)∧wb.drew.cell? ⟨W.heap.size,1,none⟩=some (.slice A n c)∧wb.drew.cell? ⟨W.heap.size,2,none⟩=some (.int .i64 x)∧wb.drew.cell? ⟨W.heap.size + 1,0,none⟩=some (.bool g')∧wb.drew.cell? ⟨W.heap.size + 1,1,none⟩=some (.slice A' n' c')∧wb.drew.cell? ⟨W.heap.size + 1,2,none⟩=some (.int .i64 x'):=⟨kb_cell Ywb.out.drew.k0 (i:=0) rfl,kb_cell Ywb.out.drew.k0 (i:=1) rfl,kb_cell Ywb.out.drew.k0 (i:=2) rfl,kb_cell Ywb.out.drew.k1 (i:=0) rfl,kb_cell Ywb.out.drew.k1 (i:=1) rfl,kb_cell Ywb.out.drew.k1 (i:=2) rfl⟩
        refine wp_region_G (g:=3) (S:=fun w'=>w'.cell? ⟨W.heap.size,0,none⟩=some (.bool g)∧w'.cell? ⟨W.heap.size,1,none⟩=some (.slice A n c)∧w'.cell? ⟨W.heap.size,2,none⟩=some (.int .i64 x)∧w'.cell? ⟨W.heap.size + 1,0,none⟩=some (.bool g')∧w'.cell? ⟨W.heap.size + 1,1,none⟩=some (.slice A' n' c')∧w'.cell? ⟨W.heap.size + 1,2,none⟩=some (.int .i64 x')) (by kernel_rfl) ?_
        have YD:=Lib.hid Ywb.out.drew
        obtain ⟨wd,hwd⟩:∃ w,wb.drew=w:=⟨_,rfl⟩
        rw [hwd] at hS YD
        rw [hwd]
        clear hwd
        (refine wpG_ldC (i:=0) [1,3] (v:=?_) rfl rfl (by kernel_rfl) (by kernel_rfl) (by kernel_rfl) (by kernel_rfl) (fun _ _ _ h=>h) (Or.inl ⟨by rfl,?_⟩) hS ?_;rotate_left;focus (intro w hSw;(try dsimp only at hSw);go_simp;first|done|with_reducible rfl|exact rfl));(try simp only [Act.put,zA,zB,zC,zD,zE,zF])
        (refine wpG_ld (i:=2) 3 (v:=?_) rfl rfl (by kernel_rfl) (by kernel_rfl) (by kernel_rfl) (by kernel_rfl) (fun _ _ _ h=>h) (Or.inl ⟨by rfl,?_⟩) hS ?_;rotate_left;focus (intro w hSw;(try dsimp only at hSw);go_simp;first|done|with_reducible rfl|exact rfl));(try simp only [Act.put,zA,zB,zC,zD,zE,zF])
        refine wpG_one (i:=1) (by kernel_rfl) rfl (fun K hK=>?_);have HK:=Lib.hid hK;clear hK
        go_simp
        (with_reducible refine (TA.out _ YD.out.b).mono ?_)
        rintro e wc ⟨rfl,hb⟩
        have Ywc:=Lib.hid (YD.out.then hb)
        refine HK.out _ _ (Or.inr ⟨kb_cell Ywc.out.k0 (i:=0) rfl,kb_cell Ywc.out.k0 (i:=1) rfl,kb_cell Ywc.out.k0 (i:=2) rfl,kb_cell Ywc.out.k1 (i:=0) rfl,kb_cell Ywc.out.k1 (i:=1) rfl,kb_cell Ywc.out.k1 (i:=2) rfl⟩) ?_
        clear hb hS HK K
        (try simp only [Act.put,zA,zB,zC,zD,zE,zF])
        refine wpG_one (i:=3) (by kernel_rfl) rfl (fun K hK=>?_);have HK:=Lib.hid hK;clear hK
        go_simp
        (with_reducible refine (TB.out _ Ywc.out.b).mono ?_)
        rintro e we ⟨rfl,hb⟩
        have Ywe:=Lib.hid (Ywc.out.then hb)
        refine HK.out _ _ (Or.inl (by kernel_rfl)) ?_
        clear hb HK K
        (try simp only [Act.put,zA,zB,zC,zD,zE,zF])
        (refine wpG_take (i:=4) (v:=?_) rfl rfl (by kernel_rfl) (by kernel_rfl) (by kernel_rfl) (fun _ _ _ h=>h) (Or.inl ⟨by rfl,fun w=>?_⟩) (Or.inl (by kernel_rfl)) ?_;rotate_left;focus (go_simp;first|done|with_reducible rfl|exact rfl));(try simp only [Act.put,zA,zB,zC,zD,zE,zF]);(refine wpG_take (i:=5) (v:=?_) rfl rfl (by kernel_rfl) (by kernel_rfl) (by kernel_rfl) (fun _ _ _ h=>h) (Or.inl ⟨by rfl,fun w=>?_⟩) (Or.inl (by kernel_rfl)) ?_;rotate_left;focus (go_simp;first|done|with_reducible rfl|exact rfl));(try simp only [Act.put,zA,zB,zC,zD,zE,zF])
        refine wpG_done (by kernel_rfl) ?_ _
        go_upto_region 10 with (fail)
        have hS:we.drew.cell? ⟨W.heap.size,0,none⟩=some (.bool g)∧we.drew.cell? ⟨W.heap.size,1,none⟩=some (.slice A n c)∧we.drew.cell? ⟨W.heap.size,2,none⟩=some (.int .i64 x)∧we.drew.cell? ⟨W.heap.size + 1,0,none⟩=some (.bool g')∧we.drew.cell? ⟨W.heap.size + 1,1,none⟩=some (.slice A' n' c')∧we.drew.cell? ⟨W.heap.size + 1,2,none⟩=some (.int .i64 x'):=⟨kb_cell Ywe.out.drew.k0 (i:=0) rfl,kb_cell Ywe.out.drew.k0 (i:=1) rfl,kb_cell Ywe.out.drew.k0 (i:=2) rfl,kb_cell Ywe.out.drew.k1 (i:=0) rfl,kb_cell Ywe.out.drew.k1 (i:=1) rfl,kb_cell Ywe.out.drew.k1 (i:=2) rfl⟩
        refine wp_region_G (g:=3) (S:=fun w'=>w'.cell? ⟨W.heap.size,0,none⟩=some (.bool g)∧w'.cell? ⟨W.heap.size,1,none⟩=some (.slice A n c)∧w'.cell? ⟨W.heap.size,2,none⟩=some (.int .i64 x)∧w'.cell? ⟨W.heap.size + 1,0,none⟩=some (.bool g')∧w'.cell? ⟨W.heap.size + 1,1,none⟩=some (.slice A' n' c')∧w'.cell? ⟨W.heap.size + 1,2,none⟩=some (.int .i64 x')) (by kernel_rfl) ?_
        have YD:=Lib.hid Ywe.out.drew
        obtain ⟨wd,hwd⟩:∃ w,we.drew=w:=⟨_,rfl⟩
        rw [hwd] at hS YD
        rw [hwd]
        clear hwd
        (refine wpG_ldC (i:=0) [1,3] (v:=?_) rfl rfl (by kernel_rfl) (by kernel_rfl) (by kernel_rfl) (by kernel_rfl) (fun _ _ _ h=>h) (Or.inl ⟨by rfl,?_⟩) hS ?_;rotate_left;focus (intro w hSw;(try dsimp only at hSw);go_simp;first|done|with_reducible rfl|exact rfl));(try simp only [Act.put,zA,zB,zC,zD,zE,zF])
        (refine wpG_ld (i:=2) 3 (v:=?_) rfl rfl (by kernel_rfl) (by kernel_rfl) (by kernel_rfl) (by kernel_rfl) (fun _ _ _ h=>h) (Or.inl ⟨by rfl,?_⟩) hS ?_;rotate_left;focus (intro w hSw;(try dsimp only at hSw);go_simp;first|done|with_reducible rfl|exact rfl));(try simp only [Act.put,zA,zB,zC,zD,zE,zF])
        refine wpG_one (i:=1) (by kernel_rfl) rfl (fun K hK=>?_);have HK:=Lib.hid hK;clear hK
        go_simp
        (with_reducible refine (TA.out _ YD.out.b).mono ?_)
        rintro e wf ⟨rfl,hb⟩
        have Ywf:=Lib.hid (YD.out.then hb)
        refine HK.out _ _ (Or.inr ⟨kb_cell Ywf.out.k0 (i:=0) rfl,kb_cell Ywf.out.k0 (i:=1) rfl,kb_cell Ywf.out.k0 (i:=2) rfl,kb_cell Ywf.out.k1 (i:=0) rfl,kb_cell Ywf.out.k1 (i:=1) rfl,kb_cell Ywf.out.k1 (i:=2) rfl⟩) ?_
        clear hb hS HK K
        (try simp only [Act.put,zA,zB,zC,zD,zE,zF])
        refine wpG_one (i:=3) (by kernel_rfl) rfl (fun K hK=>?_);have HK:=Lib.hid hK;clear hK
        go_simp
        (with_reducible refine (TB.out _ Ywf.out.b).mono ?_)
        rintro e wg ⟨rfl,hb⟩
        have Ywg:=Lib.hid (Ywf.out.then hb)
        refine HK.out _ _ (Or.inl (by kernel_rfl)) ?_
        clear hb HK K
        (try simp only [Act.put,zA,zB,zC,zD,zE,zF])
        (refine wpG_take (i:=4) (v:=?_) rfl rfl (by kernel_rfl) (by kernel_rfl) (by kernel_rfl) (fun _ _ _ h=>h) (Or.inl ⟨by rfl,fun w=>?_⟩) (Or.inl (by kernel_rfl)) ?_;rotate_left;focus (go_simp;first|done|with_reducible rfl|exact rfl));(try simp only [Act.put,zA,zB,zC,zD,zE,zF]);(refine wpG_take (i:=5) (v:=?_) rfl rfl (by kernel_rfl) (by kernel_rfl) (by kernel_rfl) (fun _ _ _ h=>h) (Or.inl ⟨by rfl,fun w=>?_⟩) (Or.inl (by kernel_rfl)) ?_;rotate_left;focus (go_simp;first|done|with_reducible rfl|exact rfl));(try simp only [Act.put,zA,zB,zC,zD,zE,zF])
        refine wpG_done (by kernel_rfl) ?_ _
        go_wp2
        go_ret
        exact ⟨rfl,Ywg.out.b⟩
  · have RS:=Lib.hid (cmp_sg c1)
    rw [RS.out]
    by_cases c2:sgnI z < sgnI z'
    · rw [if_pos c2]
      have t2:decide (sgnI z < sgnI z')=true:=decide_eq_true c2
      obtain ⟨s,hs⟩:∃ s,sgnI z=s:=⟨_,rfl⟩
      obtain ⟨s',hs'⟩:∃ s,sgnI z'=s:=⟨_,rfl⟩
      rw [hs] at SA t2
      rw [hs'] at SB t2
      clear z1 z2 c1 c2 RS TA TB LE SD tl tg hs hs'
      go_enter Tryz.func43,Tryz.ntmps43
      go_upto_region 1 with (fail)
      obtain ⟨w1,hw1⟩:∃ w,((W.alloc (.cells #[.bool g,.slice A n c,.int .i64 x] 53)).alloc (.cells #[.bool g',.slice A' n' c',.int .i64 x'] 53))=w:=⟨_,rfl⟩
      rw [hw1] at Y0
      simp only [hw1]
      clear hw1
      have hS:w1.drew.cell? ⟨W.heap.size,0,none⟩=some (.bool g)∧w1.drew.cell? ⟨W.heap.size,1,none⟩=some (.slice A n c)∧w1.drew.cell? ⟨W.heap.size,2,none⟩=some (.int .i64 x)∧w1.drew.cell? ⟨W.heap.size + 1,0,none⟩=some (.bool g')∧w1.drew.cell? ⟨W.heap.size + 1,1,none⟩=some (.slice A' n' c')∧w1.drew.cell? ⟨W.heap.size + 1,2,none⟩=some (.int .i64 x'):=⟨kb_cell Y0.out.drew.k0 (i:=0) rfl,kb_cell Y0.out.drew.k0 (i:=1) rfl,kb_cell Y0.out.drew.k0 (i:=2) rfl,kb_cell Y0.out.drew.k1 (i:=0) rfl,kb_cell Y0.out.drew.k1 (i:=1) rfl,kb_cell Y0.out.drew.k1 (i:=2) rfl⟩
      refine wp_region_G (g:=3) (S:=fun w'=>w'.cell? ⟨W.heap.size,0,none⟩=some (.bool g)∧w'.cell? ⟨W.heap.size,1,none⟩=some (.slice A n c)∧w'.cell? ⟨W.heap.size,2,none⟩=some (.int .i64 x)∧w'.cell? ⟨W.heap.size + 1,0,none⟩=some (.bool g')∧w'.cell? ⟨W.heap.size + 1,1,none⟩=some (.slice A' n' c')∧w'.cell? ⟨W.heap.size + 1,2,none⟩=some (.int .i64 x')) (by kernel_rfl) ?_
      have YD:=Lib.hid Y0.out.drew
      obtain ⟨wd,hwd⟩:∃ w,w1.drew=w:=⟨_,rfl⟩
      rw [hwd] at hS YD
      rw [hwd]
      clear hwd
      (refine wpG_ldC (i:=0) [1,3] (v:=?_) rfl rfl (by kernel_rfl) (by kernel_rfl) (by kernel_rfl) (by kernel_rfl) (fun _ _ _ h=>h) (Or.inl ⟨by rfl,?_⟩) hS ?_;rotate_left;focus (intro w hSw;(try dsimp only at hSw);go_simp;first|done|with_reducible rfl|exact rfl));(try simp only [Act.put,zA,zB,zC,zD,zE,zF])
      (refine wpG_ld (i:=2) 3 (v:=?_) rfl rfl (by kernel_rfl) (by kernel_rfl) (by kernel_rfl) (by kernel_rfl) (fun _ _ _ h=>h) (Or.inl ⟨by rfl,?_⟩) hS ?_;rotate_left;focus (intro w hSw;(try dsimp only at hSw);go_simp;first|done|with_reducible rfl|exact rfl));(try simp only [Act.put,zA,zB,zC,zD,zE,zF])
      refine wpG_one (i:=1) (by kernel_rfl) rfl (fun K hK=>?_);have HK:=Lib.hid hK;clear hK
      go_simp
      (with_reducible refine (SA.out _ YD.out.b).mono ?_)
      rintro e wa ⟨rfl,hb⟩
      have Ywa:=Lib.hid (YD.out.then hb)
      refine HK.out _ _ (Or.inr ⟨kb_cell Ywa.out.k0 (i:=0) rfl,kb_cell Ywa.out.k0 (i:=1) rfl,kb_cell Ywa.out.k0 (i:=2) rfl,kb_cell Ywa.out.k1 (i:=0) rfl,kb_cell Ywa.out.k1 (i:=1) rfl,kb_cell Ywa.out.k1 (i:=2) rfl⟩) ?_
      clear hb hS HK K
      (try simp only [Act.put,zA,zB,zC,zD,zE,zF])
      refine wpG_one (i:=3) (by kernel_rfl) rfl (fun K hK=>?_);have HK:=Lib.hid hK;clear hK
      go_simp
      (with_reducible refine (SB.out _ Ywa.out.b).mono ?_)
      rintro e wb ⟨rfl,hb⟩
      have Ywb:=Lib.hid (Ywa.out.then hb)
      refine HK.out _ _ (Or.inl (by kernel_rfl)) ?_
      clear hb HK K
      (try simp only [Act.put,zA,zB,zC,zD,zE,zF])
      (refine wpG_take (i:=4) (v:=?_) rfl rfl (by kernel_rfl) (by kernel_rfl) (by kernel_rfl) (fun _ _ _ h=>h) (Or.inl ⟨by rfl,fun w=>?_⟩) (Or.inl (by kernel_rfl)) ?_;rotate_left;focus (go_simp;first|done|with_reducible rfl|exact rfl));(try simp only [Act.put,zA,zB,zC,zD,zE,zF]);(refine wpG_take (i:=5) (v:=?_) rfl rfl (by kernel_rfl) (by kernel_rfl) (by kernel_rfl) (fun _ _ _ h=>h) (Or.inl ⟨by rfl,fun w=>?_⟩) (Or.inl (by kernel_rfl)) ?_;rotate_left;focus (go_simp;first|done|with_reducible rfl|exact rfl));(try simp only [Act.put,zA,zB,zC,zD,zE,zF])
      refine wpG_done (by kernel_rfl) ?_ _
      go_wp2
      go_ret
      exact ⟨rfl,Ywb.out.b⟩
    · rw [if_neg c2]
      have t2:decide (sgnI z < sgnI z')=false:=decide_eq_false c2
      have t3:decide (sgnI z' < sgnI z)=true:=decide_eq_true (by omega)
      obtain ⟨s,hs⟩:∃ s,sgnI z=s:=⟨_,rfl⟩
      obtain ⟨s',hs'⟩:∃ s,sgnI z'=s:=⟨_,rfl⟩
      rw [hs] at SA t2 t3
      rw [hs'] at SB t2 t3
      clear z1 z2 c1 c2 RS TA TB LE SD tl tg hs hs'
      go_enter Tryz.func43,Tryz.ntmps43
      go_upto_region 1 with (fail)
      obtain ⟨w1,hw1⟩:∃ w,((W.alloc (.cells #[.bool g,.slice A n c,.int .i64 x] 53)).alloc (.cells #[.bool g',.slice A' n' c',.int .i64 x'] 53))=w:=⟨_,rfl⟩
      rw [hw1] at Y0
      simp only [hw1]
      clear hw1
      have hS:w1.drew.cell? ⟨W.heap.size,0,none⟩=some (.bool g)∧w1.drew.cell? ⟨W.heap.size,1,none⟩=some (.slice A n c)∧w1.drew.cell? ⟨W.heap.size,2,none⟩=some (.int .i64 x)∧w1.drew.cell? ⟨W.heap.size + 1,0,none⟩=some (.bool g')∧w1.drew.cell? ⟨W.heap.size + 1,1,none⟩=some (.slice A' n' c')∧w1.drew.cell? ⟨W.heap.size + 1,2,none⟩=some (.int .i64 x'):=⟨kb_cell Y0.out.drew.k0 (i:=0) rfl,kb_cell Y0.out.drew.k0 (i:=1) rfl,kb_cell Y0.out.drew.k0 (i:=2) rfl,kb_cell Y0.out.drew.k1 (i:=0) rfl,kb_cell Y0.out.drew.k1 (i:=1) rfl,kb_cell Y0.out.drew.k1 (i:=2) rfl⟩
      refine wp_region_G (g:=3) (S:=fun w'=>w'.cell? ⟨W.heap.size,0,none⟩=some (.bool g)∧w'.cell? ⟨W.heap.size,1,none⟩=some (.slice A n c)∧w'.cell? ⟨W.heap.size,2,none⟩=some (.int .i64 x)∧w'.cell? ⟨W.heap.size + 1,0,none⟩=some (.bool g')∧w'.cell? ⟨W.heap.size + 1,1,none⟩=some (.slice A' n' c')∧w'.cell? ⟨W.heap.size + 1,2,none⟩=some (.int .i64 x')) (by kernel_rfl) ?_
      have YD:=Lib.hid Y0.out.drew
      obtain ⟨wd,hwd⟩:∃ w,w1.drew=w:=⟨_,rfl⟩
      rw [hwd] at hS YD
      rw [hwd]
      clear hwd
      (refine wpG_ldC (i:=0) [1,3] (v:=?_) rfl rfl (by kernel_rfl) (by kernel_rfl) (by kernel_rfl) (by kernel_rfl) (fun _ _ _ h=>h) (Or.inl ⟨by rfl,?_⟩) hS ?_;rotate_left;focus (intro w hSw;(try dsimp only at hSw);go_simp;first|done|with_reducible rfl|exact rfl));(try simp only [Act.put,zA,zB,zC,zD,zE,zF])
      (refine wpG_ld (i:=2) 3 (v:=?_) rfl rfl (by kernel_rfl) (by kernel_rfl) (by kernel_rfl) (by kernel_rfl) (fun _ _ _ h=>h) (Or.inl ⟨by rfl,?_⟩) hS ?_;rotate_left;focus (intro w hSw;(try dsimp only at hSw);go_simp;first|done|with_reducible rfl|exact rfl));(try simp only [Act.put,zA,zB,zC,zD,zE,zF])
      refine wpG_one (i:=1) (by kernel_rfl) rfl (fun K hK=>?_);have HK:=Lib.hid hK;clear hK
      go_simp
      (with_reducible refine (SA.out _ YD.out.b).mono ?_)
      rintro e wa ⟨rfl,hb⟩
      have Ywa:=Lib.hid (YD.out.then hb)
      refine HK.out _ _ (Or.inr ⟨kb_cell Ywa.out.k0 (i:=0) rfl,kb_cell Ywa.out.k0 (i:=1) rfl,kb_cell Ywa.out.k0 (i:=2) rfl,kb_cell Ywa.out.k1 (i:=0) rfl,kb_cell Ywa.out.k1 (i:=1) rfl,kb_cell Ywa.out.k1 (i:=2) rfl⟩) ?_
      clear hb hS HK K
      (try simp only [Act.put,zA,zB,zC,zD,zE,zF])
      refine wpG_one (i:=3) (by kernel_rfl) rfl (fun K hK=>?_);have HK:=Lib.hid hK;clear hK
      go_simp
      (with_reducible refine (SB.out _ Ywa.out.b).mono ?_)
      rintro e wb ⟨rfl,hb⟩
      have Ywb:=Lib.hid (Ywa.out.then hb)
      refine HK.out _ _ (Or.inl (by kernel_rfl)) ?_
      clear hb HK K
      (try simp only [Act.put,zA,zB,zC,zD,zE,zF])
      (refine wpG_take (i:=4) (v:=?_) rfl rfl (by kernel_rfl) (by kernel_rfl) (by kernel_rfl) (fun _ _ _ h=>h) (Or.inl ⟨by rfl,fun w=>?_⟩) (Or.inl (by kernel_rfl)) ?_;rotate_left;focus (go_simp;first|done|with_reducible rfl|exact rfl));(try simp only [Act.put,zA,zB,zC,zD,zE,zF]);(refine wpG_take (i:=5) (v:=?_) rfl rfl (by kernel_rfl) (by kernel_rfl) (by kernel_rfl) (fun _ _ _ h=>h) (Or.inl ⟨by rfl,fun w=>?_⟩) (Or.inl (by kernel_rfl)) ?_;rotate_left;focus (go_simp;first|done|with_reducible rfl|exact rfl));(try simp only [Act.put,zA,zB,zC,zD,zE,zF])
      refine wpG_done (by kernel_rfl) ?_ _
      go_wp2
      go_ret
      exact ⟨rfl,Ywb.out.b⟩
end Go.Proofs.YtmndoelimincdaaGreatDoor
namespace Go.Proofs.YtmndoelimincdaaGreatDoor
open Go Go.RowKit Nv GFl
open Go.Proofs.YtmndoelimincdaaGreatDoorW.PrintWords (Kd own_move own_ne own_lt own_base own_typed)
open XBn
set_option maxRecDepth 100000
set_option linter.unusedSimpArgs false
theorem YS.up {w:World} {d:Value} {k K:Nat} {E z:Int} (h:YS w d k K E z) (j:Nat):YS w d k (K + j) E (z * ((p2 j:Nat):Int)):=by
  obtain ⟨g,m,x,h1,h2,h3,h4,h5⟩:=h
  refine ⟨g,m,x,h1,h2,by push_cast;omega,h4,?_⟩
  rw [show (x + ((K + j:Nat):Int)).toNat=(x + K).toNat + j by omega,p2_add,Int.natCast_mul,← Int.mul_assoc,h5]
theorem YS.agg {w:World} {d:Value} {k K:Nat} {E z:Int} (h:YS w d k K E z):∃ g A n c x,d=.agg #[.bool g,.slice A n c,.int .i64 x]:=by
  obtain ⟨g,m,x,⟨A,c,rfl,_⟩,_⟩:=h
  exact ⟨g,A,_,c,x,rfl⟩
theorem YS.set3 {w:World} {b n c k K:Nat} {d:Value} {A:Option Addr} {g0 G:Bool} {E z x0 X:Int} {v0:Value} (h:YS w d k K E z) (hb:w.heap[b]?=some (.cells #[.bool g0,v0,.int .i64 x0] 48 (0,0))) (hv:∀ z,v0 ≠ .int .u64 z):YS (((w.setCell ⟨b,0,none⟩ (.bool G)).setCell ⟨b,1,none⟩ (.slice A n c)).setCell ⟨b,2,none⟩ (.int .i64 X)) d k K E z:=by
  obtain ⟨g,m,x,h1,h2⟩:=h
  exact ⟨g,m,x,h1.set3 hb hv,h2⟩
def ZY (k K:Nat) (E z:Int) (w:World) (e:Ending) (w':World):Prop:=∃ d,e=.returned d∧YS w' d k K E z∧Below w.heap.size w w'
theorem ycmp_s {W:World} {u v:Value} {k l K:Nat} {E E' z z':Int} (h:YS W u k K E z) (h':YS W v l K E' z') :
    Calls Tryz.prog 67 #[u,v] W fun e w'=>e=.returned (.tuple #[.int .i64 (cmpZ z z'),.int .i64 0])∧Below W.heap.size W w':=by
  obtain ⟨g,m,x,h1,r,h2,h3,h4⟩:=h
  obtain ⟨g',m',x',j1,r',j2,j3,j4⟩:=h'
  have:=ycmp1 h1 r j1 r' h2 j2
  rw [h4,j4] at this
  exact this
set_option maxHeartbeats 1000000 in
theorem rof_c (x:Nat) (hx:W64 x) (hf:rg x < 9218868437227405312) (W:World) (hT:Tab W):Calls Tryz.prog 37 #[.float .f64 x] W (ZY 1 1074 1023 (val x) W):=by
  have OC:Hid (∀ w,Below W.heap.size W w→Calls Tryz.prog 68 #[.float .f64 x] w (YPost 1 1074 1023 (val x) w)):=Lib.hid (fun w hb=>(yof_c x hx hf w (hT.below hb)).mono fun e w' ⟨d,g,m,y,h1,h2,h3,h4⟩=>⟨d,h1,fdy_ys h2 h3,h4⟩)
  clear hx hf hT
  have B0:=Lib.hid (bl_alloc (Below.refl W.heap.size W) nilD)
  have K0:=Lib.hid (kb_new (w:=W) (o:=nilD) (Below.refl _ _))
  go_enter Tryz.func37,Tryz.ntmps37
  go_upto_region 2 with (first
    | (go_at_call 68;(with_reducible refine (OC.out _ B0.out).mono ?_);rintro e w1 ⟨d,rfl,hd,hb⟩;obtain ⟨g,A,n,c,y,rfl⟩:=hd.agg;have HD:=Lib.hid hd;have B1:=Lib.hid (bl_then B0.out hb);have K1:=Lib.hid (kb_keep hb K0.out);clear hd hb))
  have B2:=Lib.hid (bl_alloc B1.out (.cells #[.bool g,.slice A n c,.int .i64 y] 48))
  have K2:=Lib.hid (kb_alloc (o':=.cells #[.bool g,.slice A n c,.int .i64 y] 48) K1.out)
  have N2:=Lib.hid (kb_new (w:=w1) (o:=.cells #[.bool g,.slice A n c,.int .i64 y] 48) (Below.refl _ _))
  have H2:=Lib.hid (HD.out.below (bl_alloc (Below.refl w1.heap.size w1) (.cells #[.bool g,.slice A n c,.int .i64 y] 48)))
  obtain ⟨w2,hw2⟩:∃ w,w1.alloc (.cells #[.bool g,.slice A n c,.int .i64 y] 48)=w:=⟨_,rfl⟩
  obtain ⟨b2,hb2⟩:∃ b,w1.heap.size=b:=⟨_,rfl⟩
  rw [hw2] at B2 K2 N2 H2
  rw [hb2] at N2
  simp only [hw2,hb2]
  clear hw2 hb2
  have a0:=kb_cell N2.out (i:=0) rfl
  have a1:=kb_cell N2.out (i:=1) rfl
  have a2:=kb_cell N2.out (i:=2) rfl
  have d0:=kb_cell K2.out (i:=0) rfl
  have d1:=kb_cell K2.out (i:=1) rfl
  have d2:=kb_cell K2.out (i:=2) rfl
  have f0:=kb_frozen K2.out 0
  have f1:=kb_frozen K2.out 1
  have f2:=kb_frozen K2.out 2
  go_wp2
  have y0:=rw_setc K2.out 0 (.bool g)
  have y1:=rw_setc y0 1 (.slice A n c)
  have y2:=rw_setc y1 2 (.int .i64 y)
  have z0:=kb_cell y2 (i:=0) rfl
  have z1:=kb_cell y2 (i:=1) rfl
  have z2:=kb_cell y2 (i:=2) rfl
  refine bodyPost_ret (v:=.agg #[.bool g,.slice A n c,.int .i64 y]) (by simp [results,Tryz.results37,go_sem,z0,z1,z2]) rfl ?_
  exact ⟨_,rfl,H2.out.set3 K2.out (fun z h=>by cases h),bl_set (bl_set (bl_set B2.out _ (Nat.le_refl _)) _ (Nat.le_refl _)) _ (Nat.le_refl _)⟩
set_option maxHeartbeats 1000000 in
theorem rtimes_c {W:World} {u v:Value} {k l K K':Nat} {E E' z z':Int} (h:YS W u k K E z) (h':YS W v l K' E' z') (hk:k + l≤256) (hK:K + K'≤13000) (hE:E + E'≤13000) (hE0:0≤E + E') :
    Calls Tryz.prog 38 #[u,v] W (ZY (k + l) (K + K') (E + E') (z * z') W):=by
  have MC:Hid (∀ w,Below W.heap.size W w→Calls Tryz.prog 69 #[u,v] w (YPost (k + l) (K + K') (E + E') (z * z') w)):=Lib.hid (fun w hb=>ymul_s (h.below hb) (h'.below hb) hk hK hE hE0)
  obtain ⟨g,A,n,c,x,rfl⟩:=h.agg
  obtain ⟨g',A',n',c',x',rfl⟩:=h'.agg
  clear h h' hk hK hE hE0
  have Y0:=Lib.hid (yx_new W #[.bool g,.slice A n c,.int .i64 x] #[.bool g',.slice A' n' c',.int .i64 x'])
  have d0:=kb_cell Y0.out.k0 (i:=0) rfl
  have d1:=kb_cell Y0.out.k0 (i:=1) rfl
  have d2:=kb_cell Y0.out.k0 (i:=2) rfl
  have e0:=kb_cell Y0.out.k1 (i:=0) rfl
  have e1:=kb_cell Y0.out.k1 (i:=1) rfl
  have e2:=kb_cell Y0.out.k1 (i:=2) rfl
  go_enter Tryz.func38,Tryz.ntmps38
  go_upto_region 2 with (first
    | (go_at_call 69;(with_reducible refine (MC.out _ Y0.out.b).mono ?_);rintro e w1 ⟨d,rfl,hd,hb⟩;obtain ⟨g2,A2,n2,c2,y,rfl⟩:=hd.agg;have HD:=Lib.hid hd;have Y1:=Lib.hid (Y0.out.then hb);clear hd hb))
  clear d0 d1 d2 e0 e1 e2
  have B2:=Lib.hid (bl_alloc Y1.out.b (.cells #[.bool g2,.slice A2 n2 c2,.int .i64 y] 48))
  have K2:=Lib.hid (kb_alloc (o':=.cells #[.bool g2,.slice A2 n2 c2,.int .i64 y] 48) Y1.out.k2)
  have N2:=Lib.hid (kb_new (w:=w1) (o:=.cells #[.bool g2,.slice A2 n2 c2,.int .i64 y] 48) (Below.refl _ _))
  have H2:=Lib.hid (HD.out.below (bl_alloc (Below.refl w1.heap.size w1) (.cells #[.bool g2,.slice A2 n2 c2,.int .i64 y] 48)))
  obtain ⟨w2,hw2⟩:∃ w,w1.alloc (.cells #[.bool g2,.slice A2 n2 c2,.int .i64 y] 48)=w:=⟨_,rfl⟩
  obtain ⟨b2,hb2⟩:∃ b,w1.heap.size=b:=⟨_,rfl⟩
  rw [hw2] at B2 K2 N2 H2
  rw [hb2] at N2
  simp only [hw2,hb2]
  clear hw2 hb2
  have a0:=kb_cell N2.out (i:=0) rfl
  have a1:=kb_cell N2.out (i:=1) rfl
  have a2:=kb_cell N2.out (i:=2) rfl
  have d0:=kb_cell K2.out (i:=0) rfl
  have d1:=kb_cell K2.out (i:=1) rfl
  have d2:=kb_cell K2.out (i:=2) rfl
  have f0:=kb_frozen K2.out 0
  have f1:=kb_frozen K2.out 1
  have f2:=kb_frozen K2.out 2
  go_wp2
  have y0:=rw_setc K2.out 0 (.bool g2)
  have y1:=rw_setc y0 1 (.slice A2 n2 c2)
  have y2:=rw_setc y1 2 (.int .i64 y)
  have z0:=kb_cell y2 (i:=0) rfl
  have z1:=kb_cell y2 (i:=1) rfl
  have z2:=kb_cell y2 (i:=2) rfl
  refine bodyPost_ret (v:=.agg #[.bool g2,.slice A2 n2 c2,.int .i64 y]) (by simp [results,Tryz.results38,go_sem,z0,z1,z2]) rfl ?_
  have hW:W.heap.size≤W.heap.size + 1 + 1:=by omega
  exact ⟨_,rfl,H2.out.set3 K2.out (fun z h=>by cases h),bl_set (bl_set (bl_set B2.out _ hW) _ hW) _ hW⟩
set_option maxHeartbeats 1000000 in
theorem rcmp_c {W:World} {u v:Value} {k l K:Nat} {E E' z z':Int} (h:YS W u k K E z) (h':YS W v l K E' z') :
    Calls Tryz.prog 36 #[u,v] W fun e w'=>e=.returned (.int .i64 (cmpZ z z'))∧Below W.heap.size W w':=by
  have CC:Hid (∀ w,Below W.heap.size W w→Calls Tryz.prog 67 #[u,v] w fun e w'=>e=.returned (.tuple #[.int .i64 (cmpZ z z'),.int .i64 0])∧Below w.heap.size w w'):=Lib.hid (fun w hb=>ycmp_s (h.below hb) (h'.below hb))
  obtain ⟨g,A,n,c,x,rfl⟩:=h.agg
  obtain ⟨g',A',n',c',x',rfl⟩:=h'.agg
  clear h h'
  have Y0:=Lib.hid (y2_new W #[.bool g,.slice A n c,.int .i64 x] #[.bool g',.slice A' n' c',.int .i64 x'])
  have d0:=kb_cell Y0.out.k0 (i:=0) rfl
  have d1:=kb_cell Y0.out.k0 (i:=1) rfl
  have d2:=kb_cell Y0.out.k0 (i:=2) rfl
  have e0:=kb_cell Y0.out.k1 (i:=0) rfl
  have e1:=kb_cell Y0.out.k1 (i:=1) rfl
  have e2:=kb_cell Y0.out.k1 (i:=2) rfl
  go_enter Tryz.func36,Tryz.ntmps36
  go_wp2_with (first
    | (go_at_call 67;(with_reducible refine (CC.out _ Y0.out.b).mono ?_);rintro e w1 ⟨rfl,hb⟩;have B1:=Lib.hid (bl_then Y0.out.b hb);clear hb))
  go_ret
  exact ⟨rfl,B1.out⟩
end Go.Proofs.YtmndoelimincdaaGreatDoor
namespace Go.Proofs.YtmndoelimincdaaGreatDoor
open Go Go.RowKit GFl Ieee Nv
set_option maxRecDepth 100000
set_option linter.unusedSimpArgs false
attribute [local go_sem] run_f64bits run_f64frombits run_neg_f64
theorem cmpZ_sign (a b:Int):cmpZ a b=(a - b).sign:=by
  unfold cmpZ
  rcases Int.lt_trichotomy a b with h|h|h
  · rw [if_pos h,Int.sign_eq_neg_one_of_neg (by omega)]
  · subst h;simp
  · rw [if_neg (by omega),if_pos h,Int.sign_eq_one_of_pos (by omega)]
theorem fin_r {x:Nat} (h:fin x=true):rg x < 9218868437227405312:=by unfold fin at h;simpa using h
theorem plain_rg {x:Nat} (h:plainF x=true):553942754166571008≤rg x∧rg x < 9218868437227405312:=by
  unfold plainF at h
  have h:=of_decide_eq_true h
  omega
end Go.Proofs.YtmndoelimincdaaGreatDoor
namespace Go.Proofs.YtmndoelimincdaaGreatDoor
open Go Go.RowKit Nv GFl
open Go.Proofs.YtmndoelimincdaaGreatDoorW.PrintWords (Kd)
open XRf
set_option maxRecDepth 100000
set_option linter.unusedSimpArgs false
attribute [local go_sem] run_f64bits
theorem ld_set3 {w:World} {b n c:Nat} {v:Value} {A:Option Addr} {G:Bool} {z X:Int} (h:Ld w v z) (hb:w.heap[b]?=some nilN):Ld (((w.setCell ⟨b,0,none⟩ (.bool G)).setCell ⟨b,1,none⟩ (.slice A n c)).setCell ⟨b,2,none⟩ (.int .i64 X)) v z:=by
  have y0:=hp_set hb 0 (.bool G)
  have y1:=hp_set y0 1 (.slice A n c)
  exact ((h.setc (kb_cell hb (i:=0) rfl) (fun z h=>by cases h) _).setc (kb_cell y0 (i:=1) rfl) (fun z h=>by cases h) _).setc (kb_cell y1 (i:=2) rfl) (fun z h=>by cases h) _
theorem val_nz (x:Nat):val x=nz (neg x) ((mg B52 (rg x):Nat):Int):=by
  rw [val_eq']
  unfold nz
  cases neg x <;> rfl
set_option maxHeartbeats 2000000 in
theorem float0_s {W:World} (x:Nat) (hx:W64 x) (hf:rg x < 9218868437227405312):Calls Tryz.prog 74 #[.float .f64 x] W (ZPost 1074 1023 (val x) W):=by
  have hl:=hx.lt
  obtain ⟨e,he⟩:∃ e,rg x / 4503599627370496=e:=⟨_,rfl⟩
  obtain ⟨f,hfe⟩:∃ f,rg x % 4503599627370496=f:=⟨_,rfl⟩
  have hr:=rg_eq x
  have hn:=neg_eq x
  have eb:bits BinOp.and IntKind.u64 ((x:Int) / 4503599627370496) 2047=(e:Int):=by
    have:=u64_low11 (x / 4503599627370496) (by omega)
    rw [show ((x / 4503599627370496:Nat):Int)=(x:Int) / 4503599627370496 by omega] at this
    rw [this,← he,hr]
    congr 1
    omega
  have ef:(x:Int) % 4503599627370496=(f:Int):=by omega
  have en:((x:Int) / 9223372036854775808 == 1)=neg x:=by
    rw [hn,Bool.eq_iff_iff,beq_iff_eq,decide_eq_true_eq];omega
  have ew:wrap64 (e:Int)=(e:Int):=by unfold wrap64;omega
  have e46:e≤2046:=by omega
  have f52:f < 4503599627370496:=by omega
  have hv:if e=0 then nz (neg x) (f:Int) * 2 ^ (-1074 + ((1074:Nat):Int)).toNat=val x else nz (neg x) ((f + 4503599627370496:Nat):Int) * 2 ^ ((e:Int) - 1075 + ((1074:Nat):Int)).toNat=val x:=by
    rw [val_nz]
    by_cases h0:e=0
    · rw [if_pos h0,mg_small (show rg x < B52 by unfold B52;omega),show rg x=f by omega,show (-1074 + ((1074:Nat):Int)).toNat=0 by decide,Int.pow_zero,Int.mul_one]
    · rw [if_neg h0]
      have h1:rg x=(e - 1 + 1) * B52 + f:=by unfold B52;omega
      rw [h1,mg_eq B52 (e - 1) f f52,show ((e:Int) - 1075 + ((1074:Nat):Int)).toNat=e - 1 by omega,Int.natCast_mul,Int.natCast_pow,nz_mulr]
      congr 2
      have:B52=4503599627370496:=rfl
      rw [this,Nat.add_comm]
  have HV:=Lib.hid hv
  have B0:=Lib.hid (bl_alloc (Below.refl W.heap.size W) nilN)
  have K0:=Lib.hid (kb_new (w:=W) (o:=nilN) (Below.refl _ _))
  obtain ⟨g,hg⟩:∃ g,neg x=g:=⟨_,rfl⟩
  rw [hg] at en HV
  by_cases h0:e=0
  · have NO:Hid (∀ w,Calls Tryz.prog 105 #[.int .u64 (f:Int)] w (LPost (f:Int) w)):=Lib.hid (fun w=>natOf_d f (by omega) w)
    have NV:Hid (∀ {w A m c},Ld w (.slice A m c) (f:Int)→NS w (.agg #[.bool g,.slice A m c,.int .i64 (-1074)]) 1074 1023 (val x)):=Lib.hid (fun h=>⟨g,_,-1074,⟨_,rfl,h⟩,by omega,by omega,by omega,by have:=HV.out;rwa [if_pos h0] at this⟩)
    have k0:((e:Int) == 0)=true:=by rw [beq_iff_eq];omega
    clear hl he hfe hr hn hv hx hf hg e46 f52 HV h0
    go_enter Tryz.func74,Tryz.ntmps74
    go_wp2_with (first
      | (go_at_call 105;(with_reducible refine (NO.out _).mono ?_);rintro e' w1 ⟨v,rfl,hv,hb⟩;obtain ⟨A,m,c,rfl⟩:=hv.ld.slice;have HL:=Lib.hid hv;have B1:=Lib.hid (bl_then B0.out hb);have K1:=Lib.hid (kb_keep hb K0.out);have d0:=kb_cell K1.out (i:=0) rfl;have d1:=kb_cell K1.out (i:=1) rfl;have d2:=kb_cell K1.out (i:=2) rfl;have f0:=kb_frozen K1.out 0;have f1:=kb_frozen K1.out 1;have f2:=kb_frozen K1.out 2;clear hv hb))
    have y2:=hp_set (hp_set (hp_set K1.out 0 (.bool g)) 1 (.slice A m c)) 2 (.int .i64 (-1074))
    have z0:=kb_cell y2 (i:=0) rfl
    have z1:=kb_cell y2 (i:=1) rfl
    have z2:=kb_cell y2 (i:=2) rfl
    refine bodyPost_ret (v:=.agg #[.bool g,.slice A m c,.int .i64 (-1074)]) (by simp [results,Tryz.results74,go_sem,z0,z1,z2]) rfl ?_
    exact ⟨_,rfl,NV.out (ld_set3 HL.out.ld K1.out),bl_set (bl_set (bl_set B1.out _ (by simp)) _ (by simp)) _ (by simp)⟩
  · have NO:Hid (∀ w,Calls Tryz.prog 105 #[.int .u64 ((f:Int) + 4503599627370496)] w (LPost ((f + 4503599627370496:Nat):Int) w)):=Lib.hid (fun w=>by have:=natOf_d (f + 4503599627370496) (by omega) w;rwa [show ((f + 4503599627370496:Nat):Int)=(f:Int) + 4503599627370496 by omega] at this ⊢)
    have NV:Hid (∀ {w A m c},Ld w (.slice A m c) ((f + 4503599627370496:Nat):Int)→NS w (.agg #[.bool g,.slice A m c,.int .i64 ((e:Int) - 1075)]) 1074 1023 (val x)):=Lib.hid (fun h=>⟨g,_,(e:Int) - 1075,⟨_,rfl,h⟩,by omega,by omega,by omega,by have:=HV.out;rwa [if_neg h0] at this⟩)
    have k0:((e:Int) == 0)=false:=by rw [beq_eq_false_iff_ne];omega
    have k1:IntKind.u64.wrap ((f:Int) + 4503599627370496)=(f:Int) + 4503599627370496:=by rw [IntKind.wrap_u64];omega
    have k2:wrap64 ((e:Int) - 1075)=(e:Int) - 1075:=by unfold wrap64;omega
    have k3:IntKind.i64.wrap ((e:Int) - 1075)=(e:Int) - 1075:=by clear k2;rw [IntKind.wrap_i64];omega
    clear hl he hfe hr hn hv hx hf hg e46 f52 HV h0
    go_enter Tryz.func74,Tryz.ntmps74
    go_wp2_with (first
      | (go_at_call 105;(with_reducible refine (NO.out _).mono ?_);rintro e' w1 ⟨v,rfl,hv,hb⟩;obtain ⟨A,m,c,rfl⟩:=hv.ld.slice;have HL:=Lib.hid hv;have B1:=Lib.hid (bl_then B0.out hb);have K1:=Lib.hid (kb_keep hb K0.out);have d0:=kb_cell K1.out (i:=0) rfl;have d1:=kb_cell K1.out (i:=1) rfl;have d2:=kb_cell K1.out (i:=2) rfl;have f0:=kb_frozen K1.out 0;have f1:=kb_frozen K1.out 1;have f2:=kb_frozen K1.out 2;clear hv hb))
    have y2:=hp_set (hp_set (hp_set K1.out 0 (.bool g)) 1 (.slice A m c)) 2 (.int .i64 ((e:Int) - 1075))
    have z0:=kb_cell y2 (i:=0) rfl
    have z1:=kb_cell y2 (i:=1) rfl
    have z2:=kb_cell y2 (i:=2) rfl
    refine bodyPost_ret (v:=.agg #[.bool g,.slice A m c,.int .i64 ((e:Int) - 1075)]) (by simp [results,Tryz.results74,go_sem,z0,z1,z2]) rfl ?_
    exact ⟨_,rfl,NV.out (ld_set3 HL.out.ld K1.out),bl_set (bl_set (bl_set B1.out _ (by simp)) _ (by simp)) _ (by simp)⟩
set_option maxHeartbeats 1000000 in
theorem exact_s {W:World} (x:Nat) (hx:W64 x) (hf:rg x < 9218868437227405312):Calls Tryz.prog 44 #[.float .f64 x] W (ZPost 1074 1023 (val x) W):=by
  have FC:Hid (∀ w,Calls Tryz.prog 74 #[.float .f64 x] w (ZPost 1074 1023 (val x) w)):=Lib.hid (fun w=>float0_s x hx hf)
  clear hx hf
  have B0:=Lib.hid (bl_alloc (Below.refl W.heap.size W) nilN)
  have K0:=Lib.hid (kb_new (w:=W) (o:=nilN) (Below.refl _ _))
  go_enter Tryz.func44,Tryz.ntmps44
  go_wp2_with (first
    | (go_at_call 74;(with_reducible refine (FC.out _).mono ?_);rintro e' w1 ⟨v,rfl,hv,hb⟩;obtain ⟨g,A,m,c,y,rfl⟩:=hv.agg;have HL:=Lib.hid hv;have B1:=Lib.hid (bl_then B0.out hb);have K1:=Lib.hid (kb_keep hb K0.out);have d0:=kb_cell K1.out (i:=0) rfl;have d1:=kb_cell K1.out (i:=1) rfl;have d2:=kb_cell K1.out (i:=2) rfl;have f0:=kb_frozen K1.out 0;have f1:=kb_frozen K1.out 1;have f2:=kb_frozen K1.out 2;clear hv hb))
  have y2:=hp_set (hp_set (hp_set K1.out 0 (.bool g)) 1 (.slice A m c)) 2 (.int .i64 y)
  have z0:=kb_cell y2 (i:=0) rfl
  have z1:=kb_cell y2 (i:=1) rfl
  have z2:=kb_cell y2 (i:=2) rfl
  refine bodyPost_ret (v:=.agg #[.bool g,.slice A m c,.int .i64 y]) (by simp [results,Tryz.results44,go_sem,z0,z1,z2]) rfl ?_
  exact ⟨_,rfl,HL.out.set3 K1.out (fun z h=>by cases h),bl_set (bl_set (bl_set B1.out _ (by simp)) _ (by simp)) _ (by simp)⟩
end Go.Proofs.YtmndoelimincdaaGreatDoor
namespace Go.Proofs.YtmndoelimincdaaGreatDoor
open Go Go.RowKit GFl Ieee Nv
set_option maxRecDepth 100000
set_option linter.unusedSimpArgs false
attribute [local go_sem] run_f64bits run_f64frombits run_neg_f64
theorem g_sideZ_c (x:Nat) (off m:Int) (hx:W64 x) (h0:rg x=0) (hz:(neg x=false→0≤off)∧(neg x=true→off≤0)) (w:World) :
    Calls Tryz.prog 41 #[.float .f64 x,.int .i64 off,.int .i8 m] w fun e w'=>e=.returned (.float .f64 (settleW x off (wayI m)))∧w=w':=by
  have sg:∀ w,Calls Tryz.prog 48 #[.float .f64 x] w fun e w'=>e=.returned (.bool (neg x))∧w=w':=fun w=>(signbit_c x hx w).mono fun _ _ h=>⟨h.1,h.2.symm⟩
  have UP:=Lib.hid (fun w=>g_up_c x hx (by omega) w)
  have DN:=Lib.hid (fun w=>g_down_c x hx (by omega) w)
  have n0:(FloatKind.f64.format.order x 0 != some .eq)=false:=by rw [nez hx (by omega),decide_eq_true h0];rfl
  have RS:Hid (settleW x off (wayI m)=if (off < 0∧modeW x (wayI m)=1) ∨ (0 < off∧modeW x (wayI m)=2) then stepW x (decide (0 < off)) else x):=Lib.hid (by unfold settleW;rw [if_neg (by omega)])
  have MW:Hid (modeW x (wayI m)=if m=3 then (if neg x then 2 else 1) else wayI m):=Lib.hid (by
    unfold modeW
    have:wayI m=3 ↔ m=3:=by unfold wayI;split <;> omega
    simp only [this])
  have WY:Hid (∀ i,(i=1 ∨ i=2)→(wayI m=i ↔ m=i)):=Lib.hid (fun i hi=>by unfold wayI;split <;> omega)
  obtain ⟨ns,hn⟩:∃ b,neg x=b:=⟨_,rfl⟩
  rw [hn] at sg MW hz
  have SG:=Lib.hid sg
  clear sg hx hn h0
  have key:∀ v:Nat,(v=if (off < 0∧m=1) then stepW x false else if (0 < off∧m=2) then stepW x true else x)→v=settleW x off (wayI m):=fun v hv=>by
    rw [hv,RS.out,MW.out]
    by_cases m3:m=3
    · rw [if_neg (by omega),if_neg (by omega),if_pos m3]
      cases ns
      · have:=hz.1 rfl
        rw [if_neg];simp only [Bool.false_eq_true,if_false];omega
      · have:=hz.2 rfl
        rw [if_neg];simp only [if_true];omega
    · rw [if_neg m3]
      have h1:=WY.out 1 (Or.inl rfl)
      have h2:=WY.out 2 (Or.inr rfl)
      by_cases c1:off < 0∧m=1
      · rw [if_pos c1,if_pos (Or.inl ⟨c1.1,h1.2 c1.2⟩),decide_eq_false (by omega)]
      · rw [if_neg c1]
        by_cases c2:0 < off∧m=2
        · rw [if_pos c2,if_pos (Or.inr ⟨c2.1,h2.2 c2.2⟩),decide_eq_true c2.1]
        · rw [if_neg c2,if_neg (by rw [h1,h2];omega)]
  have k1:∃ b,decide (off < 0)=b:=⟨_,rfl⟩
  have k2:∃ b,decide (0 < off)=b:=⟨_,rfl⟩
  have j1:∃ b,(m == 1)=b:=⟨_,rfl⟩
  have j2:∃ b,(m == 2)=b:=⟨_,rfl⟩
  have j3:∃ b,(m == 3)=b:=⟨_,rfl⟩
  obtain ⟨t1,k1⟩:=k1
  obtain ⟨t2,k2⟩:=k2
  obtain ⟨b1,j1⟩:=j1
  obtain ⟨b2,j2⟩:=j2
  obtain ⟨b3,j3⟩:=j3
  have KEY:Hid (∀ v:Nat,v=(if (t1 && b1)=true then stepW x false else if (t2 && b2)=true then stepW x true else x)→v=settleW x off (wayI m)):=Lib.hid (fun v hv=>key v (by
    rw [hv,← k1,← k2,← j1,← j2]
    simp only [Bool.and_eq_true,decide_eq_true_eq,beq_iff_eq]))
  clear key RS MW WY hz
  cases t1 <;> cases t2 <;> cases b1 <;> cases b2 <;> cases b3 <;> cases ns
  all_goals
    go_enter Tryz.func41,Tryz.ntmps41
    go_wp2_with (first|(go_at_call 48;refine (SG.out _).mono ?_;rintro e w' ⟨rfl,rfl⟩)|(go_at_call 71;refine (UP.out _).mono ?_;rintro e w' ⟨rfl,rfl⟩)|(go_at_call 70;refine (DN.out _).mono ?_;rintro e w' ⟨rfl,rfl⟩))
    go_ret
    exact ⟨ret_float (KEY.out _ rfl),rfl⟩
theorem g_sideA_c (x:Nat) (off m:Int) (hx:W64 x) (hf:rg x < 9218868437227405312) (hz:rg x=0→(neg x=false→0≤off)∧(neg x=true→off≤0)) (w:World) :
    Calls Tryz.prog 41 #[.float .f64 x,.int .i64 off,.int .i8 m] w fun e w'=>e=.returned (.float .f64 (settleW x off (wayI m)))∧w=w':=by
  by_cases h0:rg x=0
  · exact g_sideZ_c x off m hx h0 (hz h0) w
  · exact g_sideX_c x off m hx hf h0 w
def midB (x:Nat):Bool:=decide (553942754166571008≤rg x) && decide (rg x≤8660422083433463808)
theorem g_mid_c (x:Nat) (hx:W64 x) (hf:rg x≤9218868437227405312) (w:World):Calls Tryz.prog 40 #[.float .f64 x] w fun e w'=>e=.returned (.bool (midB x))∧w=w':=by
  have ab:=fun w=>abs_c x hx w
  have AB:=Lib.hid ab
  have k1:(FloatKind.f64.format.order (fabs x) 553942754166571008 == some .gt || FloatKind.f64.format.order (fabs x) 553942754166571008 == some .eq)=decide (553942754166571008≤rg x):=by
    rw [t_ge (fabs_w x) (w_const (by decide)),fabs_isn,fabs_plc,isn_eq]
    have e1:isn 553942754166571008=false:=by decide
    have e2:plc 553942754166571008=553942754166571008:=by decide
    rw [e1,e2,decide_eq_false (show ¬ 9218868437227405312 < rg x by omega),Bool.eq_iff_iff];simp;omega
  have k2:(FloatKind.f64.format.order (fabs x) 8660422083433463808 == some .lt || FloatKind.f64.format.order (fabs x) 8660422083433463808 == some .eq)=decide (rg x≤8660422083433463808):=by
    rw [t_le (fabs_w x) (w_const (by decide)),fabs_isn,fabs_plc,isn_eq]
    have e1:isn 8660422083433463808=false:=by decide
    have e2:plc 8660422083433463808=8660422083433463808:=by decide
    rw [e1,e2,decide_eq_false (show ¬ 9218868437227405312 < rg x by omega),Bool.eq_iff_iff];simp;omega
  unfold midB
  obtain ⟨b1,h1⟩:∃ b,decide (553942754166571008≤rg x)=b:=⟨_,rfl⟩
  obtain ⟨b2,h2⟩:∃ b,decide (rg x≤8660422083433463808)=b:=⟨_,rfl⟩
  rw [h1] at k1 ⊢
  rw [h2] at k2 ⊢
  clear h1 h2 ab hx hf
  cases b1 <;> cases b2
  all_goals
    go_enter Tryz.func40,Tryz.ntmps40
    go_wp2_with (first|(go_at_call 8;refine (AB.out _).mono ?_;rintro e w' ⟨rfl,rfl⟩))
    go_ret
    exact ⟨rfl,rfl⟩
theorem mid_rg {x:Nat} (h:midB x=true):553942754166571008≤rg x:=by
  unfold midB at h
  rw [Bool.and_eq_true,decide_eq_true_eq,decide_eq_true_eq] at h
  exact h.1
theorem val_z {p:Nat} (h:rg p=0):val p=0:=by rw [val_eq',h,mg_zero _ (by decide)];cases neg p <;> simp
theorem val_sg (x:Nat):(neg x=false→0≤val x)∧(neg x=true→val x≤0):=by
  rw [val_eq']
  constructor <;> intro h <;> rw [h] <;> simp
theorem sign_mono {v:Int}:(0≤v→0≤v.sign)∧(v≤0→v.sign≤0):=by
  rcases Int.lt_trichotomy v 0 with h|h|h
  · rw [Int.sign_eq_neg_one_of_neg h];omega
  · subst h;simp
  · rw [Int.sign_eq_one_of_pos h];omega
theorem ls_200:((p2 10000:Nat):Int)≤ls 200:=by decide +kernel
theorem sz_p2 {z:Int} (h:z.natAbs < p2 10000):Sz z:=by
  unfold Sz
  have h1:=ls_200
  have h2:=ls_le (show 200≤1000000 by decide)
  generalize ls 200=u at *
  generalize ls 1000000=v at *
  generalize p2 10000=t at *
  omega
theorem val_lt {x:Nat} (h:rg x < 9218868437227405312):(val x).natAbs < p2 2098:=by
  rw [val_natAbs]
  have h1:mg B52 (rg x) < mg B52 9218868437227405312:=(mg_lt_iff B52_pos).2 h
  rw [mgINF] at h1
  have h2:B52 * p2 2046=p2 2098:=by
    have:B52=p2 52:=by decide +kernel
    rw [this,← p2_add]
  rwa [h2] at h1
theorem p2_lt3 {a:Nat} (h:a < 10000):p2 a < p2 10000:=p2_lt' h
theorem sz_val {x:Nat} (h:rg x < 9218868437227405312):Sz (val x):=sz_p2 (Nat.lt_trans (val_lt h) (p2_lt3 (by decide)))
theorem sz_prod {x y:Nat} (h:rg x < 9218868437227405312) (h':rg y < 9218868437227405312):(val x * val y).natAbs < p2 4196:=by
  rw [Int.natAbs_mul,show (4196:Nat)=2098 + 2098 from rfl,p2_add]
  exact Nat.mul_lt_mul_of_lt_of_lt (val_lt h) (val_lt h')
theorem sz_sc {x:Nat} (h:rg x < 9218868437227405312):(val x * ((p2 1074:Nat):Int)).natAbs < p2 4196:=by
  rw [Int.natAbs_mul,Int.natAbs_natCast]
  have h1:(val x).natAbs * p2 1074 < p2 2098 * p2 1074:=Nat.mul_lt_mul_of_pos_right (val_lt h) (p2_pos _)
  rw [← p2_add] at h1
  exact Nat.lt_trans h1 (p2_lt' (by decide))
theorem sz_diff {u v:Int} (h:u.natAbs < p2 4196) (h':v.natAbs < p2 4196):Sz (u + -v):=by
  refine sz_p2 (Nat.lt_of_lt_of_le (m:=p2 4197) ?_ (Nat.le_of_lt (p2_lt' (by decide))))
  rw [show (4197:Nat)=4196 + 1 from rfl,p2_suc]
  omega
theorem sz_of {u:Int} (h:u.natAbs < p2 4196):Sz u:=sz_p2 (Nat.lt_trans h (p2_lt' (by decide)))
theorem NS.up {w:World} {v:Value} {k:Nat} {E z:Int} (h:NS w v k E z) (j:Nat):NS w v (k + j) E (z * ((p2 j:Nat):Int)):=by
  obtain ⟨g,m,x,h1,h2,h3,h4,h5⟩:=h
  refine ⟨g,m,x,h1,h2,by push_cast;omega,h4,?_⟩
  rw [show (x + ((k + j:Nat):Int)).toNat=(x + k).toNat + j by omega,Int.pow_add,← Int.mul_assoc,h5,p2_def,Int.natCast_pow];rfl
theorem NS.wide {w:World} {v:Value} {k:Nat} {E E' z:Int} (h:NS w v k E z) (hE:E≤E'):NS w v k E' z:=by
  obtain ⟨g,m,x,h1,h2,h3,h4,h5⟩:=h
  exact ⟨g,m,x,h1,h2,h3,by omega,h5⟩
end Go.Proofs.YtmndoelimincdaaGreatDoor
namespace Go.Proofs.YtmndoelimincdaaGreatDoor
open Go Go.RowKit GFl Ieee
set_option maxRecDepth 100000
theorem rootFrom_le (n:Nat):∀ (todo root:Nat),root * root≤n→n < (root + 2 ^ todo) * (root + 2 ^ todo)→Datum.rootFrom n todo root * Datum.rootFrom n todo root≤n∧n < (Datum.rootFrom n todo root + 1) * (Datum.rootFrom n todo root + 1)
  | 0,root,h1,h2=>⟨h1,by simpa [Datum.rootFrom] using h2⟩
  | todo + 1,root,h1,h2=>by
    unfold Datum.rootFrom
    simp only [Nat.shiftLeft_eq,Nat.one_mul]
    have e:root + 2 ^ (todo + 1)=root + 2 ^ todo + 2 ^ todo:=by rw [Nat.pow_succ];omega
    by_cases h:(root + 2 ^ todo) * (root + 2 ^ todo)≤n
    · rw [if_pos h]
      exact rootFrom_le n todo _ h (by rw [← e];exact h2)
    · rw [if_neg h]
      exact rootFrom_le n todo _ h1 (by omega)
theorem root_is (n:Nat):Datum.rootFrom n (n.log2 / 2 + 1) 0 * Datum.rootFrom n (n.log2 / 2 + 1) 0≤n∧n < (Datum.rootFrom n (n.log2 / 2 + 1) 0 + 1) * (Datum.rootFrom n (n.log2 / 2 + 1) 0 + 1):=by
  refine rootFrom_le n _ 0 (by simp) ?_
  rw [Nat.zero_add,← Nat.pow_add]
  exact Nat.lt_of_lt_of_le Nat.lt_log2_self (Nat.pow_le_pow_right (by decide) (by omega))
theorem sqrt64x {a:Nat} (ha:W64 a) (hn:neg a=false) (h0:rg a ≠ 0) (fa:rg a < 9218868437227405312) :
    ∃ r,double.sqrt a=some r∧W64 r∧neg r=false∧rg r < 9218868437227405312∧(p2 174≤mg B52 (rg a)→p2 1180≤mg B52 (rg r) * mg B52 (rg r)):=by
  obtain ⟨m,i,ea,li,hm,hml,hm0⟩:=read_num (f:=double) ha (by rw [d_inf];exact fa)
  have hs:sgn double a=false:=hn
  rw [hs] at ea
  rw [d_l] at li hm
  have hmz:m ≠ 0:=fun h=>h0 (hm0.1 h)
  unfold Format.sqrt
  rw [ea]
  simp only [Datum.root,if_neg hmz,Bool.false_eq_true,if_false,Option.map_some,Format.write,Nat.shiftLeft_eq]
  obtain ⟨d,hd⟩:∃ d,double.fractionBits + 2=d:=⟨_,rfl⟩
  have hd54:d=54:=by rw [← hd];decide
  rw [hd]
  obtain ⟨more,hmore⟩:∃ q,2 * d - m.log2 + ((i - ((2 * d - m.log2:Nat):Int)) % 2).toNat=q:=⟨_,rfl⟩
  rw [hmore]
  have hmore1:more≤110:=by omega
  obtain ⟨e2,he2⟩:∃ e2:Int,i - (more:Int)=2 * e2:=⟨(i - more) / 2,by omega⟩
  have he3:(i - (more:Int)) / 2=e2:=by omega
  rw [he3]
  obtain ⟨n,hnn⟩:∃ n,m * 2 ^ more=n:=⟨_,rfl⟩
  rw [hnn]
  have hn1:1≤n:=by rw [← hnn];exact Nat.mul_pos (Nat.pos_of_ne_zero hmz) (Nat.two_pow_pos _)
  obtain ⟨h1,h2⟩:=root_is n
  generalize Datum.rootFrom n (n.log2 / 2 + 1) 0=whole at *
  have hw1:1≤whole:=by
    rcases Nat.eq_zero_or_pos whole with h|h
    · rw [h] at h2;omega
    · exact h
  obtain ⟨M,hM⟩:∃ M,2 * whole + (whole * whole != n).toNat=M:=⟨_,rfl⟩
  rw [hM]
  have hM1:whole + 1≤M:=by omega
  have hM2:M≤3 * whole:=by
    have:(whole * whole != n).toNat≤1:=by cases (whole * whole != n) <;> simp
    omega
  obtain ⟨r,hr,hw⟩:=nearest_rn good_double false M (e2 - 1)
  rw [d_l,d_b,← p2_def,← p2_def] at hr
  have he4:(-1074 - (e2 - 1)).toNat=0:=by omega
  rw [he4,p2_zero] at hr
  obtain ⟨k,hk⟩:∃ k,(e2 - 1 - -1074).toNat=k:=⟨_,rfl⟩
  rw [hk] at hr
  have hr:IsRn B52 (M * p2 k) 1 r:=hr
  have hsq:mg B52 (rg a) * p2 1074=n * p2 (2 * k + 2):=by
    have e:m * 2 ^ (i - -1074).toNat=mg B52 (rg a):=hm
    rw [← e,← hnn,← p2_def,← p2_def,Nat.mul_assoc,Nat.mul_assoc,← p2_add,← p2_add]
    congr 2;omega
  have hN:2 * (M * p2 k) * (2 * (M * p2 k))=M * M * p2 (2 * k + 2):=by
    rw [show 2 * k + 2=k + k + (1 + 1) by omega,p2_add,p2_add,p2_add,show p2 1=2 by decide +kernel]
    generalize p2 k=q
    have:2 * (M * q) * (2 * (M * q))=M * M * (q * q * (2 * 2)):=by ac_rfl
    exact this
  have lo:mg B52 (rg a) * p2 1074≤2 * (M * p2 k) * (2 * (M * p2 k)):=by
    rw [hsq,hN]
    exact Nat.mul_le_mul_right _ (Nat.le_trans (Nat.le_of_lt h2) (Nat.mul_le_mul hM1 hM1))
  have hi:2 * (M * p2 k) * (2 * (M * p2 k))≤9 * (mg B52 (rg a) * p2 1074):=by
    rw [hsq,hN,← Nat.mul_assoc]
    refine Nat.mul_le_mul_right _ (Nat.le_trans (Nat.mul_le_mul hM2 hM2) ?_)
    have:3 * whole * (3 * whole)=9 * (whole * whole):=by
      have:3 * whole * (3 * whole)=3 * 3 * (whole * whole):=by ac_rfl
      exact this
    omega
  generalize M * p2 k=N at *
  have fin:r≤1586 * B52:=by
    refine rn_below Nat.one_pos hr (by decide) ?_
    rw [Nat.mul_one]
    have hv:=val_lt fa
    rw [val_natAbs] at hv
    rcases Nat.lt_or_ge (p2 52 * p2 (1586 - 1)) N with h|h
    · exfalso
      rw [← p2_add] at h
      have h3:p2 (52 + (1586 - 1)) * p2 (52 + (1586 - 1))≤N * N:=Nat.mul_le_mul (Nat.le_of_lt h) (Nat.le_of_lt h)
      rw [← p2_add] at h3
      have h4:mg B52 (rg a) * p2 1074≤p2 2098 * p2 1074:=Nat.mul_le_mul_right _ (Nat.le_of_lt hv)
      rw [← p2_add] at h4
      have h5:2 * N * (2 * N)=4 * (N * N):=by
        have:2 * N * (2 * N)=2 * 2 * (N * N):=by ac_rfl
        exact this
      have h6:p2 (52 + (1586 - 1) + (52 + (1586 - 1)))=p2 100 * p2 (2098 + 1074) * p2 2:=by rw [← p2_add,← p2_add]
      have h7:p2 100=1267650600228229401496703205376:=by decide +kernel
      have h8:p2 2=4:=by decide +kernel
      rw [h6,h7,h8] at h3
      have h9:=p2_pos (2098 + 1074)
      generalize p2 (2098 + 1074)=t at *
      generalize N * N=NN at *
      rw [h5] at hi
      generalize mg B52 (rg a) * p2 1074=A at *
      omega
    · exact h
  have hrI:r < 9218868437227405312:=by
    have:B52=4503599627370496:=rfl
    omega
  have hlt:r < 9223372036854775808:=by omega
  refine ⟨wd false r,?_,wd_w hlt,wd_neg hlt,by rw [wd_rg hlt];exact hrI,fun hg=>?_⟩
  · rw [hw,d_inf,Nat.min_eq_left (Nat.le_of_lt hrI)];rfl
  · rw [wd_rg hlt]
    have hr1:1≤r:=by
      rcases Nat.eq_zero_or_pos r with h|h
      · exfalso
        subst h
        have h3:=hr.up
        have h4:mg B52 0 + mg B52 (0 + 1)=1:=by decide +kernel
        rw [h4] at h3
        have h5:N=0:=by omega
        rw [h5] at lo
        have h6:0 < mg B52 (rg a) * p2 1074:=Nat.mul_pos (Nat.lt_of_lt_of_le (p2_pos _) hg) (p2_pos _)
        omega
      · exact h
    have h3:=hr.up
    have h4:=mg_dbl hr1
    have h5:2 * N≤3 * mg B52 r:=by omega
    have h6:2 * N * (2 * N)≤3 * mg B52 r * (3 * mg B52 r):=Nat.mul_le_mul h5 h5
    have h7:3 * mg B52 r * (3 * mg B52 r)=9 * (mg B52 r * mg B52 r):=by
      have:3 * mg B52 r * (3 * mg B52 r)=3 * 3 * (mg B52 r * mg B52 r):=by ac_rfl
      exact this
    have h8:p2 174 * p2 1074≤mg B52 (rg a) * p2 1074:=Nat.mul_le_mul_right _ hg
    have h9:9 * p2 1180≤p2 174 * p2 1074:=by decide +kernel
    omega
def sqrtS (a r:Nat):Int:=(val a * ((p2 1074:Nat):Int) - val r * val r).sign
theorem sqrt_side {a r:Nat} (ha:W64 a) (hr:W64 r) (fa:rg a < 9218868437227405312) (fr:rg r < 9218868437227405312) (hg:p2 1180≤mg B52 (rg r) * mg B52 (rg r)) :
    ∃ t,double.fma (fneg r) r a=some t∧W64 t∧sgI t=sqrtS a r:=by
  have nw:=fneg_w hr
  have nr:=fneg_rg hr
  obtain ⟨t,h5,h6,h7⟩:=fma_sg nw hr ha (by rw [nr];exact fr) fr fa (dvd_val (by rw [nr];exact hg))
  refine ⟨t,h5,h6,?_⟩
  rw [h7,fneg_val hr,Int.neg_mul,Int.add_comm,← Int.sub_eq_add_neg];rfl
theorem sqrt_opt {x s:Nat} (h:double.sqrt x=some s):W64 s∧rg s≤9218868437227405312:=by
  unfold Format.sqrt at h
  obtain ⟨d,hd,rfl⟩:=Option.map_eq_some_iff.1 h
  refine write_w ?_
  intro s p e
  subst e
  generalize double.read x=a at hd
  cases a <;> simp [Datum.root] at hd
  all_goals (repeat' split at hd) <;> simp at hd
def sqrtR (a:Nat) (m:Int):Option Nat:=if (fin a && decide (0 < plc a))=true then (double.sqrt a).map (fun r=>settleW r (sqrtS a r) (wayI m)) else double.sqrt a
theorem sqrtR_no {a:Nat} {m:Int} (h:(fin a && decide (0 < plc a))=false):sqrtR a m=double.sqrt a:=by unfold sqrtR;rw [h];rfl
theorem sqrtR_ok {a r:Nat} {m:Int} (h:(fin a && decide (0 < plc a))=true) (e:double.sqrt a=some r):sqrtR a m=some (settleW r (sqrtS a r) (wayI m)):=by unfold sqrtR;rw [h,e];rfl
end Go.Proofs.YtmndoelimincdaaGreatDoor
