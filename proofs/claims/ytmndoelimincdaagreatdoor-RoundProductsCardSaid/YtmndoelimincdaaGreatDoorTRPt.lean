import Derived.Test.YtmndoelimincdaaGreatDoorTRPr
import Derived.Test.YtmndoelimincdaaGreatDoorTRPs
import Derived.Test.YtmndoelimincdaaGreatDoorTRPl
namespace Go.Proofs.YtmndoelimincdaaGreatDoor
open Go Go.RowKit Nv
open Go.Proofs.YtmndoelimincdaaGreatDoorW.PrintWords (Kd)
open XRf
set_option maxRecDepth 100000
set_option linter.unusedSimpArgs false
theorem natBits_d {w:World} {u:Value} {m:Int} (h:Ld w u m) (hs:Sl m):Calls Tryz.prog 103 #[u] w fun e w'=>e=.returned (.int .i64 (bl m.toNat))∧Below w.heap.size w w':=by
  obtain ⟨A,c,l,rfl,hl,hC,hN,rfl⟩:=h
  have hlen:=llen_of hN hs
  exact girderref00_NatBits.calls K0 A c l _ w hC hl (natBits_e l hN.1 (by omega))
theorem bl_ls {m:Int} (h0:0≤m) {n:Nat} (h:m < ls n):bl m.toNat≤64 * n:=by
  refine bl_le_of ?_
  rw [ls_nat,Nat.pow_mul] at h
  have e:(2:Nat) ^ (64 * n)=(4294967296 ^ 2) ^ n:=by rw [Nat.pow_mul]
  rw [e]
  omega
theorem bl_sl {m:Int} (h0:0≤m) (h:Sl m):bl m.toNat≤64000000:=bl_ls h0 h
theorem NS.agg {w:World} {v:Value} {k:Nat} {E z:Int} (h:NS w v k E z):∃ g A n c x,v=.agg #[.bool g,.slice A n c,.int .i64 x]:=by
  obtain ⟨g,m,x,⟨u,rfl,hu⟩,_⟩:=h
  obtain ⟨A,n,c,rfl⟩:=hu.slice
  exact ⟨g,A,n,c,x,rfl⟩
theorem NS.set3 {w:World} {b n c k:Nat} {v:Value} {A:Option Addr} {g0 G:Bool} {E z x0 X:Int} {v0:Value} (h:NS w v k E z) (hb:w.heap[b]?=some (.cells #[.bool g0,v0,.int .i64 x0] 53 (0,0))) (hv:∀ z,v0 ≠ .int .u64 z):NS (((w.setCell ⟨b,0,none⟩ (.bool G)).setCell ⟨b,1,none⟩ (.slice A n c)).setCell ⟨b,2,none⟩ (.int .i64 X)) v k E z:=by
  obtain ⟨g,m,x,⟨u,rfl,hu⟩,h2⟩:=h
  have y0:=hp_set hb 0 (.bool G)
  have y1:=hp_set y0 1 (.slice A n c)
  exact ⟨g,m,x,⟨u,rfl,((hu.setc (kb_cell hb (i:=0) rfl) (fun z h=>by cases h) _).setc (kb_cell y0 (i:=1) rfl) hv _).setc (kb_cell y1 (i:=2) rfl) (fun z h=>by cases h) _⟩,h2⟩
set_option maxHeartbeats 1000000 in
theorem top_d {W:World} {u:Value} {g:Bool} {m x:Int} (h:Nu W u g m x) (hs:Sl m) (hx:-1000000000≤x∧x≤1000000000) :
    Calls Tryz.prog 72 #[u] W fun e w'=>e=.returned (.int .i64 (x + bl m.toNat))∧Below W.heap.size W w':=by
  have hb:=bl_sl h.pos hs
  obtain ⟨u,rfl,hu⟩:=h
  have NB:Hid (∀ w,Below W.heap.size W w→Calls Tryz.prog 103 #[u] w fun e w'=>e=.returned (.int .i64 (bl m.toNat))∧Below w.heap.size w w'):=Lib.hid (fun w hb=>natBits_d (hu.below hb) hs)
  obtain ⟨A,n,c,rfl⟩:=hu.slice
  obtain ⟨b,hbe⟩:∃ b,bl m.toNat=b:=⟨_,rfl⟩
  rw [hbe] at NB hb ⊢
  have wx:wrap64 (x + (b:Int))=x + (b:Int):=by unfold wrap64;omega
  have wx2:IntKind.i64.wrap (x + (b:Int))=x + (b:Int):=by clear wx;rw [IntKind.wrap_i64];omega
  clear hu hs hx hb hbe
  have B0:=Lib.hid (bl_alloc (Below.refl W.heap.size W) (.cells #[.bool g,.slice A n c,.int .i64 x] 53))
  have K0:=Lib.hid (kb_new (w:=W) (o:=.cells #[.bool g,.slice A n c,.int .i64 x] 53) (Below.refl _ _))
  go_enter Tryz.func72,Tryz.ntmps72
  go_upto_region 1 with (fail)
  obtain ⟨w1,hw1⟩:∃ w,W.alloc (.cells #[.bool g,.slice A n c,.int .i64 x] 53)=w:=⟨_,rfl⟩
  rw [hw1] at B0 K0
  simp only [hw1]
  clear hw1
  refine wp_region_G (g:=6) (S:=fun w'=>w'.cell? ⟨W.heap.size,1,none⟩=some (.slice A n c)∧w'.cell? ⟨W.heap.size,2,none⟩=some (.int .i64 x)) (by kernel_rfl) ?_
  have B1:=Lib.hid (bl_drew B0.out)
  have K1:Hid (w1.drew.heap[W.heap.size]?=some (.cells #[.bool g,.slice A n c,.int .i64 x] 53 (0,0))):=Lib.hid K0.out
  have hS:w1.drew.cell? ⟨W.heap.size,1,none⟩=some (.slice A n c)∧w1.drew.cell? ⟨W.heap.size,2,none⟩=some (.int .i64 x):=⟨kb_cell K0.out (i:=1) rfl,kb_cell K0.out (i:=2) rfl⟩
  (refine wpG_take (i:=0) (v:=?_) rfl rfl (by kernel_rfl) (by kernel_rfl) (by kernel_rfl) (fun _ _ _ h=>h) (Or.inl ⟨by rfl,fun w=>?_⟩) (Or.inr hS) ?_;rotate_left;focus (go_simp;first|done|with_reducible rfl|exact rfl));(try simp only [Act.put,zA,zB,zC,zD,zE,zF])
  (refine wpG_ldC (i:=1) [5,6] (v:=?_) rfl rfl (by kernel_rfl) (by kernel_rfl) (by kernel_rfl) (by kernel_rfl) (fun _ _ _ h=>h) (Or.inl ⟨by rfl,?_⟩) hS ?_;rotate_left;focus (intro w hSw;(try dsimp only at hSw);go_simp;first|done|with_reducible rfl|exact rfl));(try simp only [Act.put,zA,zB,zC,zD,zE,zF])
  (refine wpG_take (i:=2) (v:=?_) rfl rfl (by kernel_rfl) (by kernel_rfl) (by kernel_rfl) (fun _ _ _ h=>h) (Or.inl ⟨by rfl,fun w=>?_⟩) (Or.inr hS) ?_;rotate_left;focus (go_simp;first|done|with_reducible rfl|exact rfl));(try simp only [Act.put,zA,zB,zC,zD,zE,zF])
  (refine wpG_ldC (i:=3) [4,5,6] (v:=?_) rfl rfl (by kernel_rfl) (by kernel_rfl) (by kernel_rfl) (by kernel_rfl) (fun _ _ _ h=>h) (Or.inl ⟨by rfl,?_⟩) hS ?_;rotate_left;focus (intro w hSw;(try dsimp only at hSw);go_simp;first|done|with_reducible rfl|exact rfl));(try simp only [Act.put,zA,zB,zC,zD,zE,zF])
  refine wpG_one (i:=4) (by kernel_rfl) rfl (fun K hK=>?_);have HK:=Lib.hid hK;clear hK
  go_simp
  (with_reducible refine (NB.out _ B1.out).mono ?_)
  rintro e w2 ⟨rfl,hb⟩
  have B2:=Lib.hid (bl_then B1.out hb)
  have k2:=kb_keep hb K1.out
  have hS:w2.cell? ⟨W.heap.size,1,none⟩=some (.slice A n c)∧w2.cell? ⟨W.heap.size,2,none⟩=some (.int .i64 x):=⟨kb_cell k2 (i:=1) rfl,kb_cell k2 (i:=2) rfl⟩
  refine HK.out _ _ (Or.inr hS) ?_
  clear HK K hb
  (try simp only [Act.put,zA,zB,zC,zD,zE,zF])
  (refine wpG_take (i:=5) (v:=?_) rfl rfl (by kernel_rfl) (by kernel_rfl) (by kernel_rfl) (fun _ _ _ h=>h) (Or.inl ⟨by rfl,fun w=>?_⟩) (Or.inr hS) ?_;rotate_left;focus (go_simp;first|done|with_reducible rfl|exact rfl));(try simp only [Act.put,zA,zB,zC,zD,zE,zF])
  refine wpG_one (i:=6) (by kernel_rfl) rfl (fun K hK=>?_);have HK:=Lib.hid hK;clear hK;go_simp;refine HK.out _ _ (Or.inl (by kernel_rfl)) ?_;clear HK K;(try simp only [Act.put,zA,zB,zC,zD,zE,zF])
  refine wpG_done (by kernel_rfl) ?_ _
  go_wp2
  go_ret
  exact ⟨rfl,B2.out⟩
set_option maxHeartbeats 2000000 in
theorem less_s {W:World} {u v:Value} {k:Nat} {E z z':Int} (h:NS W u k E z) (h':NS W v k E z') (hs:Sz z) (hs':Sz z') (hk:k≤1000000) (hE:E≤1000000) :
    Calls Tryz.prog 73 #[u,v] W (ZPost k E (z + -z') W):=by
  have MI:Hid (∀ w,Below W.heap.size W w→Calls Tryz.prog 104 #[v] w (ZPost k E (-z') w)):=Lib.hid (fun w hb=>minus_s (h'.below hb))
  have PL:Hid (∀ w v,Below W.heap.size W w→NS w v k E (-z')→Calls Tryz.prog 55 #[u,v] w (ZPost k E (z + -z') w)):=Lib.hid (fun w v hb h2=>plus_s (h.below hb) h2 hs (by unfold Sz at *;rwa [Int.natAbs_neg]) hk hE)
  obtain ⟨g,A,n,c,x,rfl⟩:=h.agg
  obtain ⟨g',A',n',c',x',rfl⟩:=h'.agg
  clear h h' hs hs' hk hE
  have B0:=Lib.hid (bx_new W #[.bool g,.slice A n c,.int .i64 x] #[.bool g',.slice A' n' c',.int .i64 x'])
  have d0:=kb_cell B0.out.k0 (i:=0) rfl
  have d1:=kb_cell B0.out.k0 (i:=1) rfl
  have d2:=kb_cell B0.out.k0 (i:=2) rfl
  go_enter Tryz.func73,Tryz.ntmps73
  go_upto_region 1 with (fail)
  clear d0 d1 d2
  obtain ⟨w1,hw1⟩:∃ w,((W.alloc (.cells #[.bool g,.slice A n c,.int .i64 x] 53)).alloc (.cells #[.bool g',.slice A' n' c',.int .i64 x'] 53)).alloc nilN=w:=⟨_,rfl⟩
  rw [hw1] at B0
  simp only [hw1]
  clear hw1
  have hS:w1.drew.cell? ⟨W.heap.size,0,none⟩=some (.bool g)∧w1.drew.cell? ⟨W.heap.size,1,none⟩=some (.slice A n c)∧w1.drew.cell? ⟨W.heap.size,2,none⟩=some (.int .i64 x)∧w1.drew.cell? ⟨W.heap.size + 1,0,none⟩=some (.bool g')∧w1.drew.cell? ⟨W.heap.size + 1,1,none⟩=some (.slice A' n' c')∧w1.drew.cell? ⟨W.heap.size + 1,2,none⟩=some (.int .i64 x'):=⟨kb_cell B0.out.drew.k0 (i:=0) rfl,kb_cell B0.out.drew.k0 (i:=1) rfl,kb_cell B0.out.drew.k0 (i:=2) rfl,kb_cell B0.out.drew.k1 (i:=0) rfl,kb_cell B0.out.drew.k1 (i:=1) rfl,kb_cell B0.out.drew.k1 (i:=2) rfl⟩
  refine wp_region_G (g:=4) (S:=fun w'=>w'.cell? ⟨W.heap.size,0,none⟩=some (.bool g)∧w'.cell? ⟨W.heap.size,1,none⟩=some (.slice A n c)∧w'.cell? ⟨W.heap.size,2,none⟩=some (.int .i64 x)∧w'.cell? ⟨W.heap.size + 1,0,none⟩=some (.bool g')∧w'.cell? ⟨W.heap.size + 1,1,none⟩=some (.slice A' n' c')∧w'.cell? ⟨W.heap.size + 1,2,none⟩=some (.int .i64 x')) (by kernel_rfl) ?_
  have B1:=Lib.hid B0.out.drew
  obtain ⟨wd,hwd⟩:∃ w,w1.drew=w:=⟨_,rfl⟩
  rw [hwd] at hS B1
  rw [hwd]
  clear hwd
  (refine wpG_ldC (i:=0) [3,4] (v:=?_) rfl rfl (by kernel_rfl) (by kernel_rfl) (by kernel_rfl) (by kernel_rfl) (fun _ _ _ h=>h) (Or.inl ⟨by rfl,?_⟩) hS ?_;rotate_left;focus (intro w hSw;(try dsimp only at hSw);go_simp;first|done|with_reducible rfl|exact rfl));(try simp only [Act.put,zA,zB,zC,zD,zE,zF])
  (refine wpG_ldC (i:=1) [2,3,4] (v:=?_) rfl rfl (by kernel_rfl) (by kernel_rfl) (by kernel_rfl) (by kernel_rfl) (fun _ _ _ h=>h) (Or.inl ⟨by rfl,?_⟩) hS ?_;rotate_left;focus (intro w hSw;(try dsimp only at hSw);go_simp;first|done|with_reducible rfl|exact rfl));(try simp only [Act.put,zA,zB,zC,zD,zE,zF])
  refine wpG_one (i:=2) (by kernel_rfl) rfl (fun K hK=>?_);have HK:=Lib.hid hK;clear hK
  go_simp
  (with_reducible refine (MI.out _ B1.out.b).mono ?_)
  rintro e w2 ⟨r,rfl,hr,hb⟩
  have HR:=Lib.hid hr
  have B2:=Lib.hid (B1.out.then hb)
  refine HK.out _ _ (Or.inr ⟨kb_cell B2.out.k0 (i:=0) rfl,kb_cell B2.out.k0 (i:=1) rfl,kb_cell B2.out.k0 (i:=2) rfl,kb_cell B2.out.k1 (i:=0) rfl,kb_cell B2.out.k1 (i:=1) rfl,kb_cell B2.out.k1 (i:=2) rfl⟩) ?_
  clear HK K hr hb hS
  (try simp only [Act.put,zA,zB,zC,zD,zE,zF])
  refine wpG_one (i:=3) (by kernel_rfl) rfl (fun K hK=>?_);have HK:=Lib.hid hK;clear hK
  go_simp
  (with_reducible refine (PL.out _ _ B2.out.b HR.out).mono ?_)
  rintro e w3 ⟨r3,rfl,hr,hb⟩
  obtain ⟨g3,A3,n3,c3,x3,rfl⟩:=hr.agg
  have H3:=Lib.hid hr
  have B3:=Lib.hid (B2.out.then hb)
  refine HK.out _ _ (Or.inr ⟨kb_cell B3.out.k0 (i:=0) rfl,kb_cell B3.out.k0 (i:=1) rfl,kb_cell B3.out.k0 (i:=2) rfl,kb_cell B3.out.k1 (i:=0) rfl,kb_cell B3.out.k1 (i:=1) rfl,kb_cell B3.out.k1 (i:=2) rfl⟩) ?_
  clear HK K hr hb
  (try simp only [Act.put,zA,zB,zC,zD,zE,zF])
  have d0:=kb_cell B3.out.k2 (i:=0) rfl
  have d1:=kb_cell B3.out.k2 (i:=1) rfl
  have d2:=kb_cell B3.out.k2 (i:=2) rfl
  have f0:=kb_frozen B3.out.k2 0
  have f1:=kb_frozen B3.out.k2 1
  have f2:=kb_frozen B3.out.k2 2
  refine wpG_one (i:=4) (by kernel_rfl) rfl (fun K hK=>?_);have HK:=Lib.hid hK;clear hK;go_simp;refine HK.out _ _ (Or.inl (by kernel_rfl)) ?_;clear HK K;(try simp only [Act.put,zA,zB,zC,zD,zE,zF])
  refine wpG_done (by kernel_rfl) ?_ _
  go_wp2
  obtain ⟨z0,z1,z2,z3⟩:=B3.out.fin g3 (.slice A3 n3 c3) x3
  refine bodyPost_ret (v:=.agg #[.bool g3,.slice A3 n3 c3,.int .i64 x3]) (by simp [results,Tryz.results73,go_sem,z0,z1,z2]) rfl ?_
  exact ⟨_,rfl,H3.out.set3 B3.out.k2 (fun z h=>by cases h),z3⟩
theorem sgZ_eq (z:Int):sgZ z=sgnI z:=by unfold sgZ sgnI;(repeat' split) <;> omega
theorem cmp_sub (a b:Int):sgZ (a + -b)=cmpZ a b:=by unfold sgZ cmpZ;(repeat' split) <;> omega
theorem ns_abs {g:Bool} {m x z:Int} {k:Nat} (h0:0≤m) (hz:nz g m * 2 ^ (x + k).toNat=z):z.natAbs=m.toNat * 2 ^ (x + k).toNat:=by
  rw [← hz,Int.natAbs_mul,nz_abs g h0,Int.natAbs_pow,show (2:Int).natAbs=2 from rfl]
  congr 1
  omega
theorem ns_top {g g':Bool} {m m' x x' z z':Int} {k:Nat} (h0:0≤m) (hz:nz g m * 2 ^ (x + k).toNat=z) (h0':0≤m') (hz':nz g' m' * 2 ^ (x' + k).toNat=z') (hn:z' ≠ 0) (hx:-(k:Int)≤x) (hx':-(k:Int)≤x') (h:x + bl m.toNat < x' + bl m'.toNat):z.natAbs < z'.natAbs:=by
  rw [ns_abs h0 hz,ns_abs h0' hz']
  have hm':m'.toNat ≠ 0:=fun e=>hn (by rw [← hz',show m'=0 by omega];cases g' <;> simp [nz])
  have h1:m.toNat * 2 ^ (x + k).toNat < 2 ^ bl m.toNat * 2 ^ (x + k).toNat:=Nat.mul_lt_mul_of_pos_right (bl_lt _) (Nat.two_pow_pos _)
  have h2:2 ^ (bl m'.toNat - 1) * 2 ^ (x' + k).toNat≤m'.toNat * 2 ^ (x' + k).toNat:=Nat.mul_le_mul_right _ (bl_le hm')
  have hb:1≤bl m'.toNat:=by rw [bl_pos hm'];omega
  rw [← Nat.pow_add] at h1 h2
  have h3:2 ^ (bl m.toNat + (x + k).toNat)≤2 ^ (bl m'.toNat - 1 + (x' + k).toNat):=Nat.pow_le_pow_right (by decide) (by omega)
  omega
structure B2X (W w:World) (h:Nat) (c0 c1:Array Value):Prop where
  b:Below W.heap.size W w
  k0:w.heap[h]?=some (.cells c0 53 (0,0))
  k1:w.heap[h + 1]?=some (.cells c1 53 (0,0))
theorem B2X.then {W w w':World} {h:Nat} {c0 c1:Array Value} (k:B2X W w h c0 c1) (hb:Below w.heap.size w w'):B2X W w' h c0 c1:=⟨bl_then k.b hb,kb_keep hb k.k0,kb_keep hb k.k1⟩
theorem B2X.drew {W w:World} {h:Nat} {c0 c1:Array Value} (k:B2X W w h c0 c1):B2X W w.drew h c0 c1:=⟨bl_drew k.b,k.k0,k.k1⟩
theorem b2x_new (W:World) (c0 c1:Array Value):B2X W ((W.alloc (.cells c0 53)).alloc (.cells c1 53)) W.heap.size c0 c1 :=
  ⟨bl_alloc (bl_alloc (Below.refl _ _) _) _,kb_alloc (kb_new (Below.refl _ _)),two_y _ _ _⟩
set_option maxHeartbeats 8000000 in
theorem compare_s {W:World} {u v:Value} {k:Nat} {E z z':Int} (h:NS W u k E z) (h':NS W v k E z') (hs:Sz z) (hs':Sz z') (hsd:Sz (z + -z')) (hk:k≤1000000) (hE:E≤1000000) :
    Calls Tryz.prog 43 #[u,v] W fun e w'=>e=.returned (.int .i64 (cmpZ z z'))∧Below W.heap.size W w':=by
  have SA:Hid (∀ w,Below W.heap.size W w→Calls Tryz.prog 56 #[u] w fun e w'=>e=.returned (.int .i64 (sgnI z))∧Below w.heap.size w w'):=Lib.hid (fun w hb=>(sign_s (h.below hb) hs).mono fun _ _ h=>⟨by rw [h.1,sgZ_eq],h.2⟩)
  have SB:Hid (∀ w,Below W.heap.size W w→Calls Tryz.prog 56 #[v] w fun e w'=>e=.returned (.int .i64 (sgnI z'))∧Below w.heap.size w w'):=Lib.hid (fun w hb=>(sign_s (h'.below hb) hs').mono fun _ _ h=>⟨by rw [h.1,sgZ_eq],h.2⟩)
  have LE:Hid (∀ w,Below W.heap.size W w→Calls Tryz.prog 73 #[u,v] w (ZPost k E (z + -z') w)):=Lib.hid (fun w hb=>less_s (h.below hb) (h'.below hb) hs hs' hk hE)
  have SD:Hid (∀ w r,NS w r k E (z + -z')→Calls Tryz.prog 56 #[r] w fun e w'=>e=.returned (.int .i64 (cmpZ z z'))∧Below w.heap.size w w'):=Lib.hid (fun w r h=>(sign_s h hsd).mono fun _ _ h=>⟨by rw [h.1,cmp_sub],h.2⟩)
  obtain ⟨g,A,n,c,x,hu⟩:=h.agg
  obtain ⟨g',A',n',c',x',hv⟩:=h'.agg
  obtain ⟨g1,m,x1,h1,h2,h3,h4,h5⟩:=h
  obtain ⟨g1',m',x1',j1,j2,j3,j4,j5⟩:=h'
  have TA:Hid (∀ w,Below W.heap.size W w→Calls Tryz.prog 72 #[u] w fun e w'=>e=.returned (.int .i64 (x1 + bl m.toNat))∧Below w.heap.size w w'):=Lib.hid (fun w hb=>top_d (h1.below hb) (NS.small h2 h5 hs) (by omega))
  have TB:Hid (∀ w,Below W.heap.size W w→Calls Tryz.prog 72 #[v] w fun e w'=>e=.returned (.int .i64 (x1' + bl m'.toNat))∧Below w.heap.size w w'):=Lib.hid (fun w hb=>top_d (j1.below hb) (NS.small j2 j5 hs') (by omega))
  have tl:z' ≠ 0→x1 + bl m.toNat < x1' + bl m'.toNat→z.natAbs < z'.natAbs:=fun hn h=>ns_top h2 h5 j2 j5 hn h3 j3 h
  have tg:z ≠ 0→x1' + bl m'.toNat < x1 + bl m.toNat→z'.natAbs < z.natAbs:=fun hn h=>ns_top j2 j5 h2 h5 hn j3 h3 h
  obtain ⟨T,hT⟩:∃ T,x1 + (bl m.toNat:Int)=T:=⟨_,rfl⟩
  obtain ⟨U,hU⟩:∃ T,x1' + (bl m'.toNat:Int)=T:=⟨_,rfl⟩
  rw [hT] at TA tl tg
  rw [hU] at TB tl tg
  clear h1 h2 h3 h4 h5 j1 j2 j3 j4 j5 hs hs' hsd hT hU hk hE
  have z1:sgnI z ≠ 0→z ≠ 0:=fun h e=>h (by rw [e];rfl)
  have z2:sgnI z' ≠ 0→z' ≠ 0:=fun h e=>h (by rw [e];rfl)
  subst hu hv
  have Y0:=Lib.hid (b2x_new W #[.bool g,.slice A n c,.int .i64 x] #[.bool g',.slice A' n' c',.int .i64 x'])
  by_cases c1:sgnI z=sgnI z'
  · by_cases c2:sgnI z=0
    · have RS:=Lib.hid (cmp_zero c1 c2)
      rw [RS.out]
      rw [← c1,c2] at SB
      rw [c2] at SA
      clear z1 z2 c1 c2 RS TA TB LE SD tl tg
      go_enter Tryz.func43,Tryz.ntmps43
      go_upto_region 1 with (fail)
      obtain ⟨w1,hw1⟩:∃ w,((W.alloc (.cells #[.bool g,.slice A n c,.int .i64 x] 53)).alloc (.cells #[.bool g',.slice A' n' c',.int .i64 x'] 53))=w:=⟨_,rfl⟩
      rw [hw1] at Y0
      simp only [hw1]
      clear hw1
      have hS:w1.drew.cell? ⟨W.heap.size,0,none⟩=some (.bool g)∧w1.drew.cell? ⟨W.heap.size,1,none⟩=some (.slice A n c)∧w1.drew.cell? ⟨W.heap.size,2,none⟩=some (.int .i64 x)∧w1.drew.cell? ⟨W.heap.size + 1,0,none⟩=some (.bool g')∧w1.drew.cell? ⟨W.heap.size + 1,1,none⟩=some (.slice A' n' c')∧w1.drew.cell? ⟨W.heap.size + 1,2,none⟩=some (.int .i64 x'):=⟨kb_cell Y0.out.drew.k0 (i:=0) rfl,kb_cell Y0.out.drew.k0 (i:=1) rfl,kb_cell Y0.out.drew.k0 (i:=2) rfl,kb_cell Y0.out.drew.k1 (i:=0) rfl,kb_cell Y0.out.drew.k1 (i:=1) rfl,kb_cell Y0.out.drew.k1 (i:=2) rfl⟩
      refine wp_region_G (g:=3) (S:=fun w'=>w'.cell? ⟨W.heap.size,0,none⟩=some (.bool g)∧w'.cell? ⟨W.heap.size,1,none⟩=some (.slice A n c)∧w'.cell? ⟨W.heap.size,2,none⟩=some (.int .i64 x)∧w'.cell? ⟨W.heap.size + 1,0,none⟩=some (.bool g')∧w'.cell? ⟨W.heap.size + 1,1,none⟩=some (.slice A' n' c')∧w'.cell? ⟨W.heap.size + 1,2,none⟩=some (.int .i64 x')) (by kernel_rfl) ?_
      have YD:=Lib.hid Y0.out.drew
      obtain ⟨wd,hwd⟩:∃ w,w1.drew=w:=⟨_,rfl⟩
      rw [hwd] at hS YD
      rw [hwd]
      clear hwd
      (refine wpG_ldC (i:=0) [1,3] (v:=?_) rfl rfl (by kernel_rfl) (by kernel_rfl) (by kernel_rfl) (by kernel_rfl) (fun _ _ _ h=>h) (Or.inl ⟨by rfl,?_⟩) hS ?_;rotate_left;focus (intro w hSw;(try dsimp only at hSw);go_simp;first|done|with_reducible rfl|exact rfl));(try simp only [Act.put,zA,zB,zC,zD,zE,zF])
      (refine wpG_ld (i:=2) 3 (v:=?_) rfl rfl (by kernel_rfl) (by kernel_rfl) (by kernel_rfl) (by kernel_rfl) (fun _ _ _ h=>h) (Or.inl ⟨by rfl,?_⟩) hS ?_;rotate_left;focus (intro w hSw;(try dsimp only at hSw);go_simp;first|done|with_reducible rfl|exact rfl));(try simp only [Act.put,zA,zB,zC,zD,zE,zF])
      refine wpG_one (i:=1) (by kernel_rfl) rfl (fun K hK=>?_);have HK:=Lib.hid hK;clear hK
      go_simp
      (with_reducible refine (SA.out _ YD.out.b).mono ?_)
      rintro e wa ⟨rfl,hb⟩
      have Ywa:=Lib.hid (YD.out.then hb)
      refine HK.out _ _ (Or.inr ⟨kb_cell Ywa.out.k0 (i:=0) rfl,kb_cell Ywa.out.k0 (i:=1) rfl,kb_cell Ywa.out.k0 (i:=2) rfl,kb_cell Ywa.out.k1 (i:=0) rfl,kb_cell Ywa.out.k1 (i:=1) rfl,kb_cell Ywa.out.k1 (i:=2) rfl⟩) ?_
      clear hb hS HK K
      (try simp only [Act.put,zA,zB,zC,zD,zE,zF])
      refine wpG_one (i:=3) (by kernel_rfl) rfl (fun K hK=>?_);have HK:=Lib.hid hK;clear hK
      go_simp
      (with_reducible refine (SB.out _ Ywa.out.b).mono ?_)
      rintro e wb ⟨rfl,hb⟩
      have Ywb:=Lib.hid (Ywa.out.then hb)
      refine HK.out _ _ (Or.inl (by kernel_rfl)) ?_
      clear hb HK K
      (try simp only [Act.put,zA,zB,zC,zD,zE,zF])
      (refine wpG_take (i:=4) (v:=?_) rfl rfl (by kernel_rfl) (by kernel_rfl) (by kernel_rfl) (fun _ _ _ h=>h) (Or.inl ⟨by rfl,fun w=>?_⟩) (Or.inl (by kernel_rfl)) ?_;rotate_left;focus (go_simp;first|done|with_reducible rfl|exact rfl));(try simp only [Act.put,zA,zB,zC,zD,zE,zF]);(refine wpG_take (i:=5) (v:=?_) rfl rfl (by kernel_rfl) (by kernel_rfl) (by kernel_rfl) (fun _ _ _ h=>h) (Or.inl ⟨by rfl,fun w=>?_⟩) (Or.inl (by kernel_rfl)) ?_;rotate_left;focus (go_simp;first|done|with_reducible rfl|exact rfl));(try simp only [Act.put,zA,zB,zC,zD,zE,zF])
      refine wpG_done (by kernel_rfl) ?_ _
      go_wp2
      go_ret
      exact ⟨rfl,Ywb.out.b⟩
    · have n1:=z1 c2
      have n2:=z2 (c1 ▸ c2)
      have ns:(sgnI z == 0)=false:=by rw [beq_eq_false_iff_ne];exact c2
      have sr:sgnI z=1 ∨ sgnI z=-1:=by unfold sgnI at *;(repeat' split) <;> (repeat' split at c2) <;> omega
      have sw:wrap64 (-sgnI z)=-sgnI z:=by rcases sr with e|e <;> rw [e] <;> unfold wrap64 <;> omega
      rw [← c1] at SB
      rcases Int.lt_trichotomy T U with c3|c3|c3
      · have RS:=Lib.hid (cmp_abs c1 (tl n2 c3))
        rw [RS.out]
        have t1:decide (T < U)=true:=decide_eq_true c3
        obtain ⟨s,hs⟩:∃ s,sgnI z=s:=⟨_,rfl⟩
        rw [hs] at SA SB ns sw ⊢
        clear z1 z2 c1 c2 c3 RS LE SD tl tg n1 n2 sr hs
        go_enter Tryz.func43,Tryz.ntmps43
        go_upto_region 1 with (fail)
        obtain ⟨w1,hw1⟩:∃ w,((W.alloc (.cells #[.bool g,.slice A n c,.int .i64 x] 53)).alloc (.cells #[.bool g',.slice A' n' c',.int .i64 x'] 53))=w:=⟨_,rfl⟩
        rw [hw1] at Y0
        simp only [hw1]
        clear hw1
        have hS:w1.drew.cell? ⟨W.heap.size,0,none⟩=some (.bool g)∧w1.drew.cell? ⟨W.heap.size,1,none⟩=some (.slice A n c)∧w1.drew.cell? ⟨W.heap.size,2,none⟩=some (.int .i64 x)∧w1.drew.cell? ⟨W.heap.size + 1,0,none⟩=some (.bool g')∧w1.drew.cell? ⟨W.heap.size + 1,1,none⟩=some (.slice A' n' c')∧w1.drew.cell? ⟨W.heap.size + 1,2,none⟩=some (.int .i64 x'):=⟨kb_cell Y0.out.drew.k0 (i:=0) rfl,kb_cell Y0.out.drew.k0 (i:=1) rfl,kb_cell Y0.out.drew.k0 (i:=2) rfl,kb_cell Y0.out.drew.k1 (i:=0) rfl,kb_cell Y0.out.drew.k1 (i:=1) rfl,kb_cell Y0.out.drew.k1 (i:=2) rfl⟩
        refine wp_region_G (g:=3) (S:=fun w'=>w'.cell? ⟨W.heap.size,0,none⟩=some (.bool g)∧w'.cell? ⟨W.heap.size,1,none⟩=some (.slice A n c)∧w'.cell? ⟨W.heap.size,2,none⟩=some (.int .i64 x)∧w'.cell? ⟨W.heap.size + 1,0,none⟩=some (.bool g')∧w'.cell? ⟨W.heap.size + 1,1,none⟩=some (.slice A' n' c')∧w'.cell? ⟨W.heap.size + 1,2,none⟩=some (.int .i64 x')) (by kernel_rfl) ?_
        have YD:=Lib.hid Y0.out.drew
        obtain ⟨wd,hwd⟩:∃ w,w1.drew=w:=⟨_,rfl⟩
        rw [hwd] at hS YD
        rw [hwd]
        clear hwd
        (refine wpG_ldC (i:=0) [1,3] (v:=?_) rfl rfl (by kernel_rfl) (by kernel_rfl) (by kernel_rfl) (by kernel_rfl) (fun _ _ _ h=>h) (Or.inl ⟨by rfl,?_⟩) hS ?_;rotate_left;focus (intro w hSw;(try dsimp only at hSw);go_simp;first|done|with_reducible rfl|exact rfl));(try simp only [Act.put,zA,zB,zC,zD,zE,zF])
        (refine wpG_ld (i:=2) 3 (v:=?_) rfl rfl (by kernel_rfl) (by kernel_rfl) (by kernel_rfl) (by kernel_rfl) (fun _ _ _ h=>h) (Or.inl ⟨by rfl,?_⟩) hS ?_;rotate_left;focus (intro w hSw;(try dsimp only at hSw);go_simp;first|done|with_reducible rfl|exact rfl));(try simp only [Act.put,zA,zB,zC,zD,zE,zF])
        refine wpG_one (i:=1) (by kernel_rfl) rfl (fun K hK=>?_);have HK:=Lib.hid hK;clear hK
        go_simp
        (with_reducible refine (SA.out _ YD.out.b).mono ?_)
        rintro e wa ⟨rfl,hb⟩
        have Ywa:=Lib.hid (YD.out.then hb)
        refine HK.out _ _ (Or.inr ⟨kb_cell Ywa.out.k0 (i:=0) rfl,kb_cell Ywa.out.k0 (i:=1) rfl,kb_cell Ywa.out.k0 (i:=2) rfl,kb_cell Ywa.out.k1 (i:=0) rfl,kb_cell Ywa.out.k1 (i:=1) rfl,kb_cell Ywa.out.k1 (i:=2) rfl⟩) ?_
        clear hb hS HK K
        (try simp only [Act.put,zA,zB,zC,zD,zE,zF])
        refine wpG_one (i:=3) (by kernel_rfl) rfl (fun K hK=>?_);have HK:=Lib.hid hK;clear hK
        go_simp
        (with_reducible refine (SB.out _ Ywa.out.b).mono ?_)
        rintro e wb ⟨rfl,hb⟩
        have Ywb:=Lib.hid (Ywa.out.then hb)
        refine HK.out _ _ (Or.inl (by kernel_rfl)) ?_
        clear hb HK K
        (try simp only [Act.put,zA,zB,zC,zD,zE,zF])
        (refine wpG_take (i:=4) (v:=?_) rfl rfl (by kernel_rfl) (by kernel_rfl) (by kernel_rfl) (fun _ _ _ h=>h) (Or.inl ⟨by rfl,fun w=>?_⟩) (Or.inl (by kernel_rfl)) ?_;rotate_left;focus (go_simp;first|done|with_reducible rfl|exact rfl));(try simp only [Act.put,zA,zB,zC,zD,zE,zF]);(refine wpG_take (i:=5) (v:=?_) rfl rfl (by kernel_rfl) (by kernel_rfl) (by kernel_rfl) (fun _ _ _ h=>h) (Or.inl ⟨by rfl,fun w=>?_⟩) (Or.inl (by kernel_rfl)) ?_;rotate_left;focus (go_simp;first|done|with_reducible rfl|exact rfl));(try simp only [Act.put,zA,zB,zC,zD,zE,zF])
        refine wpG_done (by kernel_rfl) ?_ _
        go_upto_region 8 with (fail)
        have hS:wb.drew.cell? ⟨W.heap.size,0,none⟩=some (.bool g)∧wb.drew.cell? ⟨W.heap.size,1,none⟩=some (.slice A n c)∧wb.drew.cell? ⟨W.heap.size,2,none⟩=some (.int .i64 x)∧wb.drew.cell? ⟨W.heap.size + 1,0,none⟩=some (.bool g')∧wb.drew.cell? ⟨W.heap.size + 1,1,none⟩=some (.slice A' n' c')∧wb.drew.cell? ⟨W.heap.size + 1,2,none⟩=some (.int .i64 x'):=⟨kb_cell Ywb.out.drew.k0 (i:=0) rfl,kb_cell Ywb.out.drew.k0 (i:=1) rfl,kb_cell Ywb.out.drew.k0 (i:=2) rfl,kb_cell Ywb.out.drew.k1 (i:=0) rfl,kb_cell Ywb.out.drew.k1 (i:=1) rfl,kb_cell Ywb.out.drew.k1 (i:=2) rfl⟩
        refine wp_region_G (g:=3) (S:=fun w'=>w'.cell? ⟨W.heap.size,0,none⟩=some (.bool g)∧w'.cell? ⟨W.heap.size,1,none⟩=some (.slice A n c)∧w'.cell? ⟨W.heap.size,2,none⟩=some (.int .i64 x)∧w'.cell? ⟨W.heap.size + 1,0,none⟩=some (.bool g')∧w'.cell? ⟨W.heap.size + 1,1,none⟩=some (.slice A' n' c')∧w'.cell? ⟨W.heap.size + 1,2,none⟩=some (.int .i64 x')) (by kernel_rfl) ?_
        have YD:=Lib.hid Ywb.out.drew
        obtain ⟨wd,hwd⟩:∃ w,wb.drew=w:=⟨_,rfl⟩
        rw [hwd] at hS YD
        rw [hwd]
        clear hwd
        (refine wpG_ldC (i:=0) [1,3] (v:=?_) rfl rfl (by kernel_rfl) (by kernel_rfl) (by kernel_rfl) (by kernel_rfl) (fun _ _ _ h=>h) (Or.inl ⟨by rfl,?_⟩) hS ?_;rotate_left;focus (intro w hSw;(try dsimp only at hSw);go_simp;first|done|with_reducible rfl|exact rfl));(try simp only [Act.put,zA,zB,zC,zD,zE,zF])
        (refine wpG_ld (i:=2) 3 (v:=?_) rfl rfl (by kernel_rfl) (by kernel_rfl) (by kernel_rfl) (by kernel_rfl) (fun _ _ _ h=>h) (Or.inl ⟨by rfl,?_⟩) hS ?_;rotate_left;focus (intro w hSw;(try dsimp only at hSw);go_simp;first|done|with_reducible rfl|exact rfl));(try simp only [Act.put,zA,zB,zC,zD,zE,zF])
        refine wpG_one (i:=1) (by kernel_rfl) rfl (fun K hK=>?_);have HK:=Lib.hid hK;clear hK
        go_simp
        (with_reducible refine (TA.out _ YD.out.b).mono ?_)
        rintro e wc ⟨rfl,hb⟩
        have Ywc:=Lib.hid (YD.out.then hb)
        refine HK.out _ _ (Or.inr ⟨kb_cell Ywc.out.k0 (i:=0) rfl,kb_cell Ywc.out.k0 (i:=1) rfl,kb_cell Ywc.out.k0 (i:=2) rfl,kb_cell Ywc.out.k1 (i:=0) rfl,kb_cell Ywc.out.k1 (i:=1) rfl,kb_cell Ywc.out.k1 (i:=2) rfl⟩) ?_
        clear hb hS HK K
        (try simp only [Act.put,zA,zB,zC,zD,zE,zF])
        refine wpG_one (i:=3) (by kernel_rfl) rfl (fun K hK=>?_);have HK:=Lib.hid hK;clear hK
        go_simp
        (with_reducible refine (TB.out _ Ywc.out.b).mono ?_)
        rintro e we ⟨rfl,hb⟩
        have Ywe:=Lib.hid (Ywc.out.then hb)
        refine HK.out _ _ (Or.inl (by kernel_rfl)) ?_
        clear hb HK K
        (try simp only [Act.put,zA,zB,zC,zD,zE,zF])
        (refine wpG_take (i:=4) (v:=?_) rfl rfl (by kernel_rfl) (by kernel_rfl) (by kernel_rfl) (fun _ _ _ h=>h) (Or.inl ⟨by rfl,fun w=>?_⟩) (Or.inl (by kernel_rfl)) ?_;rotate_left;focus (go_simp;first|done|with_reducible rfl|exact rfl));(try simp only [Act.put,zA,zB,zC,zD,zE,zF]);(refine wpG_take (i:=5) (v:=?_) rfl rfl (by kernel_rfl) (by kernel_rfl) (by kernel_rfl) (fun _ _ _ h=>h) (Or.inl ⟨by rfl,fun w=>?_⟩) (Or.inl (by kernel_rfl)) ?_;rotate_left;focus (go_simp;first|done|with_reducible rfl|exact rfl));(try simp only [Act.put,zA,zB,zC,zD,zE,zF])
        refine wpG_done (by kernel_rfl) ?_ _
        go_wp2
        go_ret
        exact ⟨ret_int (by first|exact sw|rfl),Ywe.out.b⟩
      · have t1:decide (T < U)=false:=decide_eq_false (by omega)
        have t2:decide (U < T)=false:=decide_eq_false (by omega)
        obtain ⟨s,hs⟩:∃ s,sgnI z=s:=⟨_,rfl⟩
        rw [hs] at SA SB ns sw
        clear z1 z2 c1 c2 c3 tl tg n1 n2 sr hs
        go_enter Tryz.func43,Tryz.ntmps43
        go_upto_region 1 with (fail)
        obtain ⟨w1,hw1⟩:∃ w,((W.alloc (.cells #[.bool g,.slice A n c,.int .i64 x] 53)).alloc (.cells #[.bool g',.slice A' n' c',.int .i64 x'] 53))=w:=⟨_,rfl⟩
        rw [hw1] at Y0
        simp only [hw1]
        clear hw1
        have hS:w1.drew.cell? ⟨W.heap.size,0,none⟩=some (.bool g)∧w1.drew.cell? ⟨W.heap.size,1,none⟩=some (.slice A n c)∧w1.drew.cell? ⟨W.heap.size,2,none⟩=some (.int .i64 x)∧w1.drew.cell? ⟨W.heap.size + 1,0,none⟩=some (.bool g')∧w1.drew.cell? ⟨W.heap.size + 1,1,none⟩=some (.slice A' n' c')∧w1.drew.cell? ⟨W.heap.size + 1,2,none⟩=some (.int .i64 x'):=⟨kb_cell Y0.out.drew.k0 (i:=0) rfl,kb_cell Y0.out.drew.k0 (i:=1) rfl,kb_cell Y0.out.drew.k0 (i:=2) rfl,kb_cell Y0.out.drew.k1 (i:=0) rfl,kb_cell Y0.out.drew.k1 (i:=1) rfl,kb_cell Y0.out.drew.k1 (i:=2) rfl⟩
        refine wp_region_G (g:=3) (S:=fun w'=>w'.cell? ⟨W.heap.size,0,none⟩=some (.bool g)∧w'.cell? ⟨W.heap.size,1,none⟩=some (.slice A n c)∧w'.cell? ⟨W.heap.size,2,none⟩=some (.int .i64 x)∧w'.cell? ⟨W.heap.size + 1,0,none⟩=some (.bool g')∧w'.cell? ⟨W.heap.size + 1,1,none⟩=some (.slice A' n' c')∧w'.cell? ⟨W.heap.size + 1,2,none⟩=some (.int .i64 x')) (by kernel_rfl) ?_
        have YD:=Lib.hid Y0.out.drew
        obtain ⟨wd,hwd⟩:∃ w,w1.drew=w:=⟨_,rfl⟩
        rw [hwd] at hS YD
        rw [hwd]
        clear hwd
        (refine wpG_ldC (i:=0) [1,3] (v:=?_) rfl rfl (by kernel_rfl) (by kernel_rfl) (by kernel_rfl) (by kernel_rfl) (fun _ _ _ h=>h) (Or.inl ⟨by rfl,?_⟩) hS ?_;rotate_left;focus (intro w hSw;(try dsimp only at hSw);go_simp;first|done|with_reducible rfl|exact rfl));(try simp only [Act.put,zA,zB,zC,zD,zE,zF])
        (refine wpG_ld (i:=2) 3 (v:=?_) rfl rfl (by kernel_rfl) (by kernel_rfl) (by kernel_rfl) (by kernel_rfl) (fun _ _ _ h=>h) (Or.inl ⟨by rfl,?_⟩) hS ?_;rotate_left;focus (intro w hSw;(try dsimp only at hSw);go_simp;first|done|with_reducible rfl|exact rfl));(try simp only [Act.put,zA,zB,zC,zD,zE,zF])
        refine wpG_one (i:=1) (by kernel_rfl) rfl (fun K hK=>?_);have HK:=Lib.hid hK;clear hK
        go_simp
        (with_reducible refine (SA.out _ YD.out.b).mono ?_)
        rintro e wa ⟨rfl,hb⟩
        have Ywa:=Lib.hid (YD.out.then hb)
        refine HK.out _ _ (Or.inr ⟨kb_cell Ywa.out.k0 (i:=0) rfl,kb_cell Ywa.out.k0 (i:=1) rfl,kb_cell Ywa.out.k0 (i:=2) rfl,kb_cell Ywa.out.k1 (i:=0) rfl,kb_cell Ywa.out.k1 (i:=1) rfl,kb_cell Ywa.out.k1 (i:=2) rfl⟩) ?_
        clear hb hS HK K
        (try simp only [Act.put,zA,zB,zC,zD,zE,zF])
        refine wpG_one (i:=3) (by kernel_rfl) rfl (fun K hK=>?_);have HK:=Lib.hid hK;clear hK
        go_simp
        (with_reducible refine (SB.out _ Ywa.out.b).mono ?_)
        rintro e wb ⟨rfl,hb⟩
        have Ywb:=Lib.hid (Ywa.out.then hb)
        refine HK.out _ _ (Or.inl (by kernel_rfl)) ?_
        clear hb HK K
        (try simp only [Act.put,zA,zB,zC,zD,zE,zF])
        (refine wpG_take (i:=4) (v:=?_) rfl rfl (by kernel_rfl) (by kernel_rfl) (by kernel_rfl) (fun _ _ _ h=>h) (Or.inl ⟨by rfl,fun w=>?_⟩) (Or.inl (by kernel_rfl)) ?_;rotate_left;focus (go_simp;first|done|with_reducible rfl|exact rfl));(try simp only [Act.put,zA,zB,zC,zD,zE,zF]);(refine wpG_take (i:=5) (v:=?_) rfl rfl (by kernel_rfl) (by kernel_rfl) (by kernel_rfl) (fun _ _ _ h=>h) (Or.inl ⟨by rfl,fun w=>?_⟩) (Or.inl (by kernel_rfl)) ?_;rotate_left;focus (go_simp;first|done|with_reducible rfl|exact rfl));(try simp only [Act.put,zA,zB,zC,zD,zE,zF])
        refine wpG_done (by kernel_rfl) ?_ _
        go_upto_region 8 with (fail)
        have hS:wb.drew.cell? ⟨W.heap.size,0,none⟩=some (.bool g)∧wb.drew.cell? ⟨W.heap.size,1,none⟩=some (.slice A n c)∧wb.drew.cell? ⟨W.heap.size,2,none⟩=some (.int .i64 x)∧wb.drew.cell? ⟨W.heap.size + 1,0,none⟩=some (.bool g')∧wb.drew.cell? ⟨W.heap.size + 1,1,none⟩=some (.slice A' n' c')∧wb.drew.cell? ⟨W.heap.size + 1,2,none⟩=some (.int .i64 x'):=⟨kb_cell Ywb.out.drew.k0 (i:=0) rfl,kb_cell Ywb.out.drew.k0 (i:=1) rfl,kb_cell Ywb.out.drew.k0 (i:=2) rfl,kb_cell Ywb.out.drew.k1 (i:=0) rfl,kb_cell Ywb.out.drew.k1 (i:=1) rfl,kb_cell Ywb.out.drew.k1 (i:=2) rfl⟩
        refine wp_region_G (g:=3) (S:=fun w'=>w'.cell? ⟨W.heap.size,0,none⟩=some (.bool g)∧w'.cell? ⟨W.heap.size,1,none⟩=some (.slice A n c)∧w'.cell? ⟨W.heap.size,2,none⟩=some (.int .i64 x)∧w'.cell? ⟨W.heap.size + 1,0,none⟩=some (.bool g')∧w'.cell? ⟨W.heap.size + 1,1,none⟩=some (.slice A' n' c')∧w'.cell? ⟨W.heap.size + 1,2,none⟩=some (.int .i64 x')) (by kernel_rfl) ?_
        have YD:=Lib.hid Ywb.out.drew
        obtain ⟨wd,hwd⟩:∃ w,wb.drew=w:=⟨_,rfl⟩
        rw [hwd] at hS YD
        rw [hwd]
        clear hwd
        (refine wpG_ldC (i:=0) [1,3] (v:=?_) rfl rfl (by kernel_rfl) (by kernel_rfl) (by kernel_rfl) (by kernel_rfl) (fun _ _ _ h=>h) (Or.inl ⟨by rfl,?_⟩) hS ?_;rotate_left;focus (intro w hSw;(try dsimp only at hSw);go_simp;first|done|with_reducible rfl|exact rfl));(try simp only [Act.put,zA,zB,zC,zD,zE,zF])
        (refine wpG_ld (i:=2) 3 (v:=?_) rfl rfl (by kernel_rfl) (by kernel_rfl) (by kernel_rfl) (by kernel_rfl) (fun _ _ _ h=>h) (Or.inl ⟨by rfl,?_⟩) hS ?_;rotate_left;focus (intro w hSw;(try dsimp only at hSw);go_simp;first|done|with_reducible rfl|exact rfl));(try simp only [Act.put,zA,zB,zC,zD,zE,zF])
        refine wpG_one (i:=1) (by kernel_rfl) rfl (fun K hK=>?_);have HK:=Lib.hid hK;clear hK
        go_simp
        (with_reducible refine (TA.out _ YD.out.b).mono ?_)
        rintro e wc ⟨rfl,hb⟩
        have Ywc:=Lib.hid (YD.out.then hb)
        refine HK.out _ _ (Or.inr ⟨kb_cell Ywc.out.k0 (i:=0) rfl,kb_cell Ywc.out.k0 (i:=1) rfl,kb_cell Ywc.out.k0 (i:=2) rfl,kb_cell Ywc.out.k1 (i:=0) rfl,kb_cell Ywc.out.k1 (i:=1) rfl,kb_cell Ywc.out.k1 (i:=2) rfl⟩) ?_
        clear hb hS HK K
        (try simp only [Act.put,zA,zB,zC,zD,zE,zF])
        refine wpG_one (i:=3) (by kernel_rfl) rfl (fun K hK=>?_);have HK:=Lib.hid hK;clear hK
        go_simp
        (with_reducible refine (TB.out _ Ywc.out.b).mono ?_)
        rintro e we ⟨rfl,hb⟩
        have Ywe:=Lib.hid (Ywc.out.then hb)
        refine HK.out _ _ (Or.inl (by kernel_rfl)) ?_
        clear hb HK K
        (try simp only [Act.put,zA,zB,zC,zD,zE,zF])
        (refine wpG_take (i:=4) (v:=?_) rfl rfl (by kernel_rfl) (by kernel_rfl) (by kernel_rfl) (fun _ _ _ h=>h) (Or.inl ⟨by rfl,fun w=>?_⟩) (Or.inl (by kernel_rfl)) ?_;rotate_left;focus (go_simp;first|done|with_reducible rfl|exact rfl));(try simp only [Act.put,zA,zB,zC,zD,zE,zF]);(refine wpG_take (i:=5) (v:=?_) rfl rfl (by kernel_rfl) (by kernel_rfl) (by kernel_rfl) (fun _ _ _ h=>h) (Or.inl ⟨by rfl,fun w=>?_⟩) (Or.inl (by kernel_rfl)) ?_;rotate_left;focus (go_simp;first|done|with_reducible rfl|exact rfl));(try simp only [Act.put,zA,zB,zC,zD,zE,zF])
        refine wpG_done (by kernel_rfl) ?_ _
        go_upto_region 10 with (fail)
        have hS:we.drew.cell? ⟨W.heap.size,0,none⟩=some (.bool g)∧we.drew.cell? ⟨W.heap.size,1,none⟩=some (.slice A n c)∧we.drew.cell? ⟨W.heap.size,2,none⟩=some (.int .i64 x)∧we.drew.cell? ⟨W.heap.size + 1,0,none⟩=some (.bool g')∧we.drew.cell? ⟨W.heap.size + 1,1,none⟩=some (.slice A' n' c')∧we.drew.cell? ⟨W.heap.size + 1,2,none⟩=some (.int .i64 x'):=⟨kb_cell Ywe.out.drew.k0 (i:=0) rfl,kb_cell Ywe.out.drew.k0 (i:=1) rfl,kb_cell Ywe.out.drew.k0 (i:=2) rfl,kb_cell Ywe.out.drew.k1 (i:=0) rfl,kb_cell Ywe.out.drew.k1 (i:=1) rfl,kb_cell Ywe.out.drew.k1 (i:=2) rfl⟩
        refine wp_region_G (g:=3) (S:=fun w'=>w'.cell? ⟨W.heap.size,0,none⟩=some (.bool g)∧w'.cell? ⟨W.heap.size,1,none⟩=some (.slice A n c)∧w'.cell? ⟨W.heap.size,2,none⟩=some (.int .i64 x)∧w'.cell? ⟨W.heap.size + 1,0,none⟩=some (.bool g')∧w'.cell? ⟨W.heap.size + 1,1,none⟩=some (.slice A' n' c')∧w'.cell? ⟨W.heap.size + 1,2,none⟩=some (.int .i64 x')) (by kernel_rfl) ?_
        have YD:=Lib.hid Ywe.out.drew
        obtain ⟨wd,hwd⟩:∃ w,we.drew=w:=⟨_,rfl⟩
        rw [hwd] at hS YD
        rw [hwd]
        clear hwd
        (refine wpG_ldC (i:=0) [1,3] (v:=?_) rfl rfl (by kernel_rfl) (by kernel_rfl) (by kernel_rfl) (by kernel_rfl) (fun _ _ _ h=>h) (Or.inl ⟨by rfl,?_⟩) hS ?_;rotate_left;focus (intro w hSw;(try dsimp only at hSw);go_simp;first|done|with_reducible rfl|exact rfl));(try simp only [Act.put,zA,zB,zC,zD,zE,zF])
        (refine wpG_ld (i:=2) 3 (v:=?_) rfl rfl (by kernel_rfl) (by kernel_rfl) (by kernel_rfl) (by kernel_rfl) (fun _ _ _ h=>h) (Or.inl ⟨by rfl,?_⟩) hS ?_;rotate_left;focus (intro w hSw;(try dsimp only at hSw);go_simp;first|done|with_reducible rfl|exact rfl));(try simp only [Act.put,zA,zB,zC,zD,zE,zF])
        refine wpG_one (i:=1) (by kernel_rfl) rfl (fun K hK=>?_);have HK:=Lib.hid hK;clear hK
        go_simp
        (with_reducible refine (TA.out _ YD.out.b).mono ?_)
        rintro e wf ⟨rfl,hb⟩
        have Ywf:=Lib.hid (YD.out.then hb)
        refine HK.out _ _ (Or.inr ⟨kb_cell Ywf.out.k0 (i:=0) rfl,kb_cell Ywf.out.k0 (i:=1) rfl,kb_cell Ywf.out.k0 (i:=2) rfl,kb_cell Ywf.out.k1 (i:=0) rfl,kb_cell Ywf.out.k1 (i:=1) rfl,kb_cell Ywf.out.k1 (i:=2) rfl⟩) ?_
        clear hb hS HK K
        (try simp only [Act.put,zA,zB,zC,zD,zE,zF])
        refine wpG_one (i:=3) (by kernel_rfl) rfl (fun K hK=>?_);have HK:=Lib.hid hK;clear hK
        go_simp
        (with_reducible refine (TB.out _ Ywf.out.b).mono ?_)
        rintro e wg ⟨rfl,hb⟩
        have Ywg:=Lib.hid (Ywf.out.then hb)
        refine HK.out _ _ (Or.inl (by kernel_rfl)) ?_
        clear hb HK K
        (try simp only [Act.put,zA,zB,zC,zD,zE,zF])
        (refine wpG_take (i:=4) (v:=?_) rfl rfl (by kernel_rfl) (by kernel_rfl) (by kernel_rfl) (fun _ _ _ h=>h) (Or.inl ⟨by rfl,fun w=>?_⟩) (Or.inl (by kernel_rfl)) ?_;rotate_left;focus (go_simp;first|done|with_reducible rfl|exact rfl));(try simp only [Act.put,zA,zB,zC,zD,zE,zF]);(refine wpG_take (i:=5) (v:=?_) rfl rfl (by kernel_rfl) (by kernel_rfl) (by kernel_rfl) (fun _ _ _ h=>h) (Or.inl ⟨by rfl,fun w=>?_⟩) (Or.inl (by kernel_rfl)) ?_;rotate_left;focus (go_simp;first|done|with_reducible rfl|exact rfl));(try simp only [Act.put,zA,zB,zC,zD,zE,zF])
        refine wpG_done (by kernel_rfl) ?_ _
        have d0:=kb_cell Ywg.out.k0 (i:=0) rfl;have d1:=kb_cell Ywg.out.k0 (i:=1) rfl;have d2:=kb_cell Ywg.out.k0 (i:=2) rfl;have e0:=kb_cell Ywg.out.k1 (i:=0) rfl;have e1:=kb_cell Ywg.out.k1 (i:=1) rfl;have e2:=kb_cell Ywg.out.k1 (i:=2) rfl
        go_wp2_with (first
          | (go_at_call 73;(with_reducible refine (LE.out _ Ywg.out.b).mono ?_);rintro e wh ⟨r,rfl,hr,hb⟩;have HR:=Lib.hid hr;have BH:=Lib.hid (bl_then Ywg.out.b hb);clear hr hb)
          | (go_at_call 56;(with_reducible refine (SD.out _ _ HR.out).mono ?_);rintro e wi ⟨rfl,hb⟩;have BI:=Lib.hid (bl_then BH.out hb);clear hb))
        go_ret
        exact ⟨rfl,BI.out⟩
      · have RS:=Lib.hid (cmp_abs2 c1 (tg n1 c3))
        rw [RS.out]
        have t1:decide (T < U)=false:=decide_eq_false (by omega)
        have t2:decide (U < T)=true:=decide_eq_true c3
        obtain ⟨s,hs⟩:∃ s,sgnI z=s:=⟨_,rfl⟩
        rw [hs] at SA SB ns sw ⊢
        clear z1 z2 c1 c2 c3 RS LE SD tl tg n1 n2 sr hs
        go_enter Tryz.func43,Tryz.ntmps43
        go_upto_region 1 with (fail)
        obtain ⟨w1,hw1⟩:∃ w,((W.alloc (.cells #[.bool g,.slice A n c,.int .i64 x] 53)).alloc (.cells #[.bool g',.slice A' n' c',.int .i64 x'] 53))=w:=⟨_,rfl⟩
        rw [hw1] at Y0
        simp only [hw1]
        clear hw1
        have hS:w1.drew.cell? ⟨W.heap.size,0,none⟩=some (.bool g)∧w1.drew.cell? ⟨W.heap.size,1,none⟩=some (.slice A n c)∧w1.drew.cell? ⟨W.heap.size,2,none⟩=some (.int .i64 x)∧w1.drew.cell? ⟨W.heap.size + 1,0,none⟩=some (.bool g')∧w1.drew.cell? ⟨W.heap.size + 1,1,none⟩=some (.slice A' n' c')∧w1.drew.cell? ⟨W.heap.size + 1,2,none⟩=some (.int .i64 x'):=⟨kb_cell Y0.out.drew.k0 (i:=0) rfl,kb_cell Y0.out.drew.k0 (i:=1) rfl,kb_cell Y0.out.drew.k0 (i:=2) rfl,kb_cell Y0.out.drew.k1 (i:=0) rfl,kb_cell Y0.out.drew.k1 (i:=1) rfl,kb_cell Y0.out.drew.k1 (i:=2) rfl⟩
        refine wp_region_G (g:=3) (S:=fun w'=>w'.cell? ⟨W.heap.size,0,none⟩=some (.bool g)∧w'.cell? ⟨W.heap.size,1,none⟩=some (.slice A n c)∧w'.cell? ⟨W.heap.size,2,none⟩=some (.int .i64 x)∧w'.cell? ⟨W.heap.size + 1,0,none⟩=some (.bool g')∧w'.cell? ⟨W.heap.size + 1,1,none⟩=some (.slice A' n' c')∧w'.cell? ⟨W.heap.size + 1,2,none⟩=some (.int .i64 x')) (by kernel_rfl) ?_
        have YD:=Lib.hid Y0.out.drew
        obtain ⟨wd,hwd⟩:∃ w,w1.drew=w:=⟨_,rfl⟩
        rw [hwd] at hS YD
        rw [hwd]
        clear hwd
        (refine wpG_ldC (i:=0) [1,3] (v:=?_) rfl rfl (by kernel_rfl) (by kernel_rfl) (by kernel_rfl) (by kernel_rfl) (fun _ _ _ h=>h) (Or.inl ⟨by rfl,?_⟩) hS ?_;rotate_left;focus (intro w hSw;(try dsimp only at hSw);go_simp;first|done|with_reducible rfl|exact rfl));(try simp only [Act.put,zA,zB,zC,zD,zE,zF])
        (refine wpG_ld (i:=2) 3 (v:=?_) rfl rfl (by kernel_rfl) (by kernel_rfl) (by kernel_rfl) (by kernel_rfl) (fun _ _ _ h=>h) (Or.inl ⟨by rfl,?_⟩) hS ?_;rotate_left;focus (intro w hSw;(try dsimp only at hSw);go_simp;first|done|with_reducible rfl|exact rfl));(try simp only [Act.put,zA,zB,zC,zD,zE,zF])
        refine wpG_one (i:=1) (by kernel_rfl) rfl (fun K hK=>?_);have HK:=Lib.hid hK;clear hK
        go_simp
        (with_reducible refine (SA.out _ YD.out.b).mono ?_)
        rintro e wa ⟨rfl,hb⟩
        have Ywa:=Lib.hid (YD.out.then hb)
        refine HK.out _ _ (Or.inr ⟨kb_cell Ywa.out.k0 (i:=0) rfl,kb_cell Ywa.out.k0 (i:=1) rfl,kb_cell Ywa.out.k0 (i:=2) rfl,kb_cell Ywa.out.k1 (i:=0) rfl,kb_cell Ywa.out.k1 (i:=1) rfl,kb_cell Ywa.out.k1 (i:=2) rfl⟩) ?_
        clear hb hS HK K
        (try simp only [Act.put,zA,zB,zC,zD,zE,zF])
        refine wpG_one (i:=3) (by kernel_rfl) rfl (fun K hK=>?_);have HK:=Lib.hid hK;clear hK
        go_simp
        (with_reducible refine (SB.out _ Ywa.out.b).mono ?_)
        rintro e wb ⟨rfl,hb⟩
        have Ywb:=Lib.hid (Ywa.out.then hb)
        refine HK.out _ _ (Or.inl (by kernel_rfl)) ?_
        clear hb HK K
        (try simp only [Act.put,zA,zB,zC,zD,zE,zF])
        (refine wpG_take (i:=4) (v:=?_) rfl rfl (by kernel_rfl) (by kernel_rfl) (by kernel_rfl) (fun _ _ _ h=>h) (Or.inl ⟨by rfl,fun w=>?_⟩) (Or.inl (by kernel_rfl)) ?_;rotate_left;focus (go_simp;first|done|with_reducible rfl|exact rfl));(try simp only [Act.put,zA,zB,zC,zD,zE,zF]);(refine wpG_take (i:=5) (v:=?_) rfl rfl (by kernel_rfl) (by kernel_rfl) (by kernel_rfl) (fun _ _ _ h=>h) (Or.inl ⟨by rfl,fun w=>?_⟩) (Or.inl (by kernel_rfl)) ?_;rotate_left;focus (go_simp;first|done|with_reducible rfl|exact rfl));(try simp only [Act.put,zA,zB,zC,zD,zE,zF])
        refine wpG_done (by kernel_rfl) ?_ _
        go_upto_region 8 with (fail)
        have hS:wb.drew.cell? ⟨W.heap.size,0,none⟩=some (.bool g)∧wb.drew.cell? ⟨W.heap.size,1,none⟩=some (.slice A n c)∧wb.drew.cell? ⟨W.heap.size,2,none⟩=some (.int .i64 x)∧wb.drew.cell? ⟨W.heap.size + 1,0,none⟩=some (.bool g')∧wb.drew.cell? ⟨W.heap.size + 1,1,none⟩=some (.slice A' n' c')∧wb.drew.cell? ⟨W.heap.size + 1,2,none⟩=some (.int .i64 x'):=⟨kb_cell Ywb.out.drew.k0 (i:=0) rfl,kb_cell Ywb.out.drew.k0 (i:=1) rfl,kb_cell Ywb.out.drew.k0 (i:=2) rfl,kb_cell Ywb.out.drew.k1 (i:=0) rfl,kb_cell Ywb.out.drew.k1 (i:=1) rfl,kb_cell Ywb.out.drew.k1 (i:=2) rfl⟩
        refine wp_region_G (g:=3) (S:=fun w'=>w'.cell? ⟨W.heap.size,0,none⟩=some (.bool g)∧w'.cell? ⟨W.heap.size,1,none⟩=some (.slice A n c)∧w'.cell? ⟨W.heap.size,2,none⟩=some (.int .i64 x)∧w'.cell? ⟨W.heap.size + 1,0,none⟩=some (.bool g')∧w'.cell? ⟨W.heap.size + 1,1,none⟩=some (.slice A' n' c')∧w'.cell? ⟨W.heap.size + 1,2,none⟩=some (.int .i64 x')) (by kernel_rfl) ?_
        have YD:=Lib.hid Ywb.out.drew
        obtain ⟨wd,hwd⟩:∃ w,wb.drew=w:=⟨_,rfl⟩
        rw [hwd] at hS YD
        rw [hwd]
        clear hwd
        (refine wpG_ldC (i:=0) [1,3] (v:=?_) rfl rfl (by kernel_rfl) (by kernel_rfl) (by kernel_rfl) (by kernel_rfl) (fun _ _ _ h=>h) (Or.inl ⟨by rfl,?_⟩) hS ?_;rotate_left;focus (intro w hSw;(try dsimp only at hSw);go_simp;first|done|with_reducible rfl|exact rfl));(try simp only [Act.put,zA,zB,zC,zD,zE,zF])
        (refine wpG_ld (i:=2) 3 (v:=?_) rfl rfl (by kernel_rfl) (by kernel_rfl) (by kernel_rfl) (by kernel_rfl) (fun _ _ _ h=>h) (Or.inl ⟨by rfl,?_⟩) hS ?_;rotate_left;focus (intro w hSw;(try dsimp only at hSw);go_simp;first|done|with_reducible rfl|exact rfl));(try simp only [Act.put,zA,zB,zC,zD,zE,zF])
        refine wpG_one (i:=1) (by kernel_rfl) rfl (fun K hK=>?_);have HK:=Lib.hid hK;clear hK
        go_simp
        (with_reducible refine (TA.out _ YD.out.b).mono ?_)
        rintro e wc ⟨rfl,hb⟩
        have Ywc:=Lib.hid (YD.out.then hb)
        refine HK.out _ _ (Or.inr ⟨kb_cell Ywc.out.k0 (i:=0) rfl,kb_cell Ywc.out.k0 (i:=1) rfl,kb_cell Ywc.out.k0 (i:=2) rfl,kb_cell Ywc.out.k1 (i:=0) rfl,kb_cell Ywc.out.k1 (i:=1) rfl,kb_cell Ywc.out.k1 (i:=2) rfl⟩) ?_
        clear hb hS HK K
        (try simp only [Act.put,zA,zB,zC,zD,zE,zF])
        refine wpG_one (i:=3) (by kernel_rfl) rfl (fun K hK=>?_);have HK:=Lib.hid hK;clear hK
        go_simp
        (with_reducible refine (TB.out _ Ywc.out.b).mono ?_)
        rintro e we ⟨rfl,hb⟩
        have Ywe:=Lib.hid (Ywc.out.then hb)
        refine HK.out _ _ (Or.inl (by kernel_rfl)) ?_
        clear hb HK K
        (try simp only [Act.put,zA,zB,zC,zD,zE,zF])
        (refine wpG_take (i:=4) (v:=?_) rfl rfl (by kernel_rfl) (by kernel_rfl) (by kernel_rfl) (fun _ _ _ h=>h) (Or.inl ⟨by rfl,fun w=>?_⟩) (Or.inl (by kernel_rfl)) ?_;rotate_left;focus (go_simp;first|done|with_reducible rfl|exact rfl));(try simp only [Act.put,zA,zB,zC,zD,zE,zF]);(refine wpG_take (i:=5) (v:=?_) rfl rfl (by kernel_rfl) (by kernel_rfl) (by kernel_rfl) (fun _ _ _ h=>h) (Or.inl ⟨by rfl,fun w=>?_⟩) (Or.inl (by kernel_rfl)) ?_;rotate_left;focus (go_simp;first|done|with_reducible rfl|exact rfl));(try simp only [Act.put,zA,zB,zC,zD,zE,zF])
        refine wpG_done (by kernel_rfl) ?_ _
        go_upto_region 10 with (fail)
        have hS:we.drew.cell? ⟨W.heap.size,0,none⟩=some (.bool g)∧we.drew.cell? ⟨W.heap.size,1,none⟩=some (.slice A n c)∧we.drew.cell? ⟨W.heap.size,2,none⟩=some (.int .i64 x)∧we.drew.cell? ⟨W.heap.size + 1,0,none⟩=some (.bool g')∧we.drew.cell? ⟨W.heap.size + 1,1,none⟩=some (.slice A' n' c')∧we.drew.cell? ⟨W.heap.size + 1,2,none⟩=some (.int .i64 x'):=⟨kb_cell Ywe.out.drew.k0 (i:=0) rfl,kb_cell Ywe.out.drew.k0 (i:=1) rfl,kb_cell Ywe.out.drew.k0 (i:=2) rfl,kb_cell Ywe.out.drew.k1 (i:=0) rfl,kb_cell Ywe.out.drew.k1 (i:=1) rfl,kb_cell Ywe.out.drew.k1 (i:=2) rfl⟩
        refine wp_region_G (g:=3) (S:=fun w'=>w'.cell? ⟨W.heap.size,0,none⟩=some (.bool g)∧w'.cell? ⟨W.heap.size,1,none⟩=some (.slice A n c)∧w'.cell? ⟨W.heap.size,2,none⟩=some (.int .i64 x)∧w'.cell? ⟨W.heap.size + 1,0,none⟩=some (.bool g')∧w'.cell? ⟨W.heap.size + 1,1,none⟩=some (.slice A' n' c')∧w'.cell? ⟨W.heap.size + 1,2,none⟩=some (.int .i64 x')) (by kernel_rfl) ?_
        have YD:=Lib.hid Ywe.out.drew
        obtain ⟨wd,hwd⟩:∃ w,we.drew=w:=⟨_,rfl⟩
        rw [hwd] at hS YD
        rw [hwd]
        clear hwd
        (refine wpG_ldC (i:=0) [1,3] (v:=?_) rfl rfl (by kernel_rfl) (by kernel_rfl) (by kernel_rfl) (by kernel_rfl) (fun _ _ _ h=>h) (Or.inl ⟨by rfl,?_⟩) hS ?_;rotate_left;focus (intro w hSw;(try dsimp only at hSw);go_simp;first|done|with_reducible rfl|exact rfl));(try simp only [Act.put,zA,zB,zC,zD,zE,zF])
        (refine wpG_ld (i:=2) 3 (v:=?_) rfl rfl (by kernel_rfl) (by kernel_rfl) (by kernel_rfl) (by kernel_rfl) (fun _ _ _ h=>h) (Or.inl ⟨by rfl,?_⟩) hS ?_;rotate_left;focus (intro w hSw;(try dsimp only at hSw);go_simp;first|done|with_reducible rfl|exact rfl));(try simp only [Act.put,zA,zB,zC,zD,zE,zF])
        refine wpG_one (i:=1) (by kernel_rfl) rfl (fun K hK=>?_);have HK:=Lib.hid hK;clear hK
        go_simp
        (with_reducible refine (TA.out _ YD.out.b).mono ?_)
        rintro e wf ⟨rfl,hb⟩
        have Ywf:=Lib.hid (YD.out.then hb)
        refine HK.out _ _ (Or.inr ⟨kb_cell Ywf.out.k0 (i:=0) rfl,kb_cell Ywf.out.k0 (i:=1) rfl,kb_cell Ywf.out.k0 (i:=2) rfl,kb_cell Ywf.out.k1 (i:=0) rfl,kb_cell Ywf.out.k1 (i:=1) rfl,kb_cell Ywf.out.k1 (i:=2) rfl⟩) ?_
        clear hb hS HK K
        (try simp only [Act.put,zA,zB,zC,zD,zE,zF])
        refine wpG_one (i:=3) (by kernel_rfl) rfl (fun K hK=>?_);have HK:=Lib.hid hK;clear hK
        go_simp
        (with_reducible refine (TB.out _ Ywf.out.b).mono ?_)
        rintro e wg ⟨rfl,hb⟩
        have Ywg:=Lib.hid (Ywf.out.then hb)
        refine HK.out _ _ (Or.inl (by kernel_rfl)) ?_
        clear hb HK K
        (try simp only [Act.put,zA,zB,zC,zD,zE,zF])
        (refine wpG_take (i:=4) (v:=?_) rfl rfl (by kernel_rfl) (by kernel_rfl) (by kernel_rfl) (fun _ _ _ h=>h) (Or.inl ⟨by rfl,fun w=>?_⟩) (Or.inl (by kernel_rfl)) ?_;rotate_left;focus (go_simp;first|done|with_reducible rfl|exact rfl));(try simp only [Act.put,zA,zB,zC,zD,zE,zF]);(refine wpG_take (i:=5) (v:=?_) rfl rfl (by kernel_rfl) (by kernel_rfl) (by kernel_rfl) (fun _ _ _ h=>h) (Or.inl ⟨by rfl,fun w=>?_⟩) (Or.inl (by kernel_rfl)) ?_;rotate_left;focus (go_simp;first|done|with_reducible rfl|exact rfl));(try simp only [Act.put,zA,zB,zC,zD,zE,zF])
        refine wpG_done (by kernel_rfl) ?_ _
        go_wp2
        go_ret
        exact ⟨rfl,Ywg.out.b⟩
  · have RS:=Lib.hid (cmp_sg c1)
    rw [RS.out]
    by_cases c2:sgnI z < sgnI z'
    · rw [if_pos c2]
      have t2:decide (sgnI z < sgnI z')=true:=decide_eq_true c2
      obtain ⟨s,hs⟩:∃ s,sgnI z=s:=⟨_,rfl⟩
      obtain ⟨s',hs'⟩:∃ s,sgnI z'=s:=⟨_,rfl⟩
      rw [hs] at SA t2
      rw [hs'] at SB t2
      clear z1 z2 c1 c2 RS TA TB LE SD tl tg hs hs'
      go_enter Tryz.func43,Tryz.ntmps43
      go_upto_region 1 with (fail)
      obtain ⟨w1,hw1⟩:∃ w,((W.alloc (.cells #[.bool g,.slice A n c,.int .i64 x] 53)).alloc (.cells #[.bool g',.slice A' n' c',.int .i64 x'] 53))=w:=⟨_,rfl⟩
      rw [hw1] at Y0
      simp only [hw1]
      clear hw1
      have hS:w1.drew.cell? ⟨W.heap.size,0,none⟩=some (.bool g)∧w1.drew.cell? ⟨W.heap.size,1,none⟩=some (.slice A n c)∧w1.drew.cell? ⟨W.heap.size,2,none⟩=some (.int .i64 x)∧w1.drew.cell? ⟨W.heap.size + 1,0,none⟩=some (.bool g')∧w1.drew.cell? ⟨W.heap.size + 1,1,none⟩=some (.slice A' n' c')∧w1.drew.cell? ⟨W.heap.size + 1,2,none⟩=some (.int .i64 x'):=⟨kb_cell Y0.out.drew.k0 (i:=0) rfl,kb_cell Y0.out.drew.k0 (i:=1) rfl,kb_cell Y0.out.drew.k0 (i:=2) rfl,kb_cell Y0.out.drew.k1 (i:=0) rfl,kb_cell Y0.out.drew.k1 (i:=1) rfl,kb_cell Y0.out.drew.k1 (i:=2) rfl⟩
      refine wp_region_G (g:=3) (S:=fun w'=>w'.cell? ⟨W.heap.size,0,none⟩=some (.bool g)∧w'.cell? ⟨W.heap.size,1,none⟩=some (.slice A n c)∧w'.cell? ⟨W.heap.size,2,none⟩=some (.int .i64 x)∧w'.cell? ⟨W.heap.size + 1,0,none⟩=some (.bool g')∧w'.cell? ⟨W.heap.size + 1,1,none⟩=some (.slice A' n' c')∧w'.cell? ⟨W.heap.size + 1,2,none⟩=some (.int .i64 x')) (by kernel_rfl) ?_
      have YD:=Lib.hid Y0.out.drew
      obtain ⟨wd,hwd⟩:∃ w,w1.drew=w:=⟨_,rfl⟩
      rw [hwd] at hS YD
      rw [hwd]
      clear hwd
      (refine wpG_ldC (i:=0) [1,3] (v:=?_) rfl rfl (by kernel_rfl) (by kernel_rfl) (by kernel_rfl) (by kernel_rfl) (fun _ _ _ h=>h) (Or.inl ⟨by rfl,?_⟩) hS ?_;rotate_left;focus (intro w hSw;(try dsimp only at hSw);go_simp;first|done|with_reducible rfl|exact rfl));(try simp only [Act.put,zA,zB,zC,zD,zE,zF])
      (refine wpG_ld (i:=2) 3 (v:=?_) rfl rfl (by kernel_rfl) (by kernel_rfl) (by kernel_rfl) (by kernel_rfl) (fun _ _ _ h=>h) (Or.inl ⟨by rfl,?_⟩) hS ?_;rotate_left;focus (intro w hSw;(try dsimp only at hSw);go_simp;first|done|with_reducible rfl|exact rfl));(try simp only [Act.put,zA,zB,zC,zD,zE,zF])
      refine wpG_one (i:=1) (by kernel_rfl) rfl (fun K hK=>?_);have HK:=Lib.hid hK;clear hK
      go_simp
      (with_reducible refine (SA.out _ YD.out.b).mono ?_)
      rintro e wa ⟨rfl,hb⟩
      have Ywa:=Lib.hid (YD.out.then hb)
      refine HK.out _ _ (Or.inr ⟨kb_cell Ywa.out.k0 (i:=0) rfl,kb_cell Ywa.out.k0 (i:=1) rfl,kb_cell Ywa.out.k0 (i:=2) rfl,kb_cell Ywa.out.k1 (i:=0) rfl,kb_cell Ywa.out.k1 (i:=1) rfl,kb_cell Ywa.out.k1 (i:=2) rfl⟩) ?_
      clear hb hS HK K
      (try simp only [Act.put,zA,zB,zC,zD,zE,zF])
      refine wpG_one (i:=3) (by kernel_rfl) rfl (fun K hK=>?_);have HK:=Lib.hid hK;clear hK
      go_simp
      (with_reducible refine (SB.out _ Ywa.out.b).mono ?_)
      rintro e wb ⟨rfl,hb⟩
      have Ywb:=Lib.hid (Ywa.out.then hb)
      refine HK.out _ _ (Or.inl (by kernel_rfl)) ?_
      clear hb HK K
      (try simp only [Act.put,zA,zB,zC,zD,zE,zF])
      (refine wpG_take (i:=4) (v:=?_) rfl rfl (by kernel_rfl) (by kernel_rfl) (by kernel_rfl) (fun _ _ _ h=>h) (Or.inl ⟨by rfl,fun w=>?_⟩) (Or.inl (by kernel_rfl)) ?_;rotate_left;focus (go_simp;first|done|with_reducible rfl|exact rfl));(try simp only [Act.put,zA,zB,zC,zD,zE,zF]);(refine wpG_take (i:=5) (v:=?_) rfl rfl (by kernel_rfl) (by kernel_rfl) (by kernel_rfl) (fun _ _ _ h=>h) (Or.inl ⟨by rfl,fun w=>?_⟩) (Or.inl (by kernel_rfl)) ?_;rotate_left;focus (go_simp;first|done|with_reducible rfl|exact rfl));(try simp only [Act.put,zA,zB,zC,zD,zE,zF])
      refine wpG_done (by kernel_rfl) ?_ _
      go_wp2
      go_ret
      exact ⟨rfl,Ywb.out.b⟩
    · rw [if_neg c2]
      have t2:decide (sgnI z < sgnI z')=false:=decide_eq_false c2
      have t3:decide (sgnI z' < sgnI z)=true:=decide_eq_true (by omega)
      obtain ⟨s,hs⟩:∃ s,sgnI z=s:=⟨_,rfl⟩
      obtain ⟨s',hs'⟩:∃ s,sgnI z'=s:=⟨_,rfl⟩
      rw [hs] at SA t2 t3
      rw [hs'] at SB t2 t3
      clear z1 z2 c1 c2 RS TA TB LE SD tl tg hs hs'
      go_enter Tryz.func43,Tryz.ntmps43
      go_upto_region 1 with (fail)
      obtain ⟨w1,hw1⟩:∃ w,((W.alloc (.cells #[.bool g,.slice A n c,.int .i64 x] 53)).alloc (.cells #[.bool g',.slice A' n' c',.int .i64 x'] 53))=w:=⟨_,rfl⟩
      rw [hw1] at Y0
      simp only [hw1]
      clear hw1
      have hS:w1.drew.cell? ⟨W.heap.size,0,none⟩=some (.bool g)∧w1.drew.cell? ⟨W.heap.size,1,none⟩=some (.slice A n c)∧w1.drew.cell? ⟨W.heap.size,2,none⟩=some (.int .i64 x)∧w1.drew.cell? ⟨W.heap.size + 1,0,none⟩=some (.bool g')∧w1.drew.cell? ⟨W.heap.size + 1,1,none⟩=some (.slice A' n' c')∧w1.drew.cell? ⟨W.heap.size + 1,2,none⟩=some (.int .i64 x'):=⟨kb_cell Y0.out.drew.k0 (i:=0) rfl,kb_cell Y0.out.drew.k0 (i:=1) rfl,kb_cell Y0.out.drew.k0 (i:=2) rfl,kb_cell Y0.out.drew.k1 (i:=0) rfl,kb_cell Y0.out.drew.k1 (i:=1) rfl,kb_cell Y0.out.drew.k1 (i:=2) rfl⟩
      refine wp_region_G (g:=3) (S:=fun w'=>w'.cell? ⟨W.heap.size,0,none⟩=some (.bool g)∧w'.cell? ⟨W.heap.size,1,none⟩=some (.slice A n c)∧w'.cell? ⟨W.heap.size,2,none⟩=some (.int .i64 x)∧w'.cell? ⟨W.heap.size + 1,0,none⟩=some (.bool g')∧w'.cell? ⟨W.heap.size + 1,1,none⟩=some (.slice A' n' c')∧w'.cell? ⟨W.heap.size + 1,2,none⟩=some (.int .i64 x')) (by kernel_rfl) ?_
      have YD:=Lib.hid Y0.out.drew
      obtain ⟨wd,hwd⟩:∃ w,w1.drew=w:=⟨_,rfl⟩
      rw [hwd] at hS YD
      rw [hwd]
      clear hwd
      (refine wpG_ldC (i:=0) [1,3] (v:=?_) rfl rfl (by kernel_rfl) (by kernel_rfl) (by kernel_rfl) (by kernel_rfl) (fun _ _ _ h=>h) (Or.inl ⟨by rfl,?_⟩) hS ?_;rotate_left;focus (intro w hSw;(try dsimp only at hSw);go_simp;first|done|with_reducible rfl|exact rfl));(try simp only [Act.put,zA,zB,zC,zD,zE,zF])
      (refine wpG_ld (i:=2) 3 (v:=?_) rfl rfl (by kernel_rfl) (by kernel_rfl) (by kernel_rfl) (by kernel_rfl) (fun _ _ _ h=>h) (Or.inl ⟨by rfl,?_⟩) hS ?_;rotate_left;focus (intro w hSw;(try dsimp only at hSw);go_simp;first|done|with_reducible rfl|exact rfl));(try simp only [Act.put,zA,zB,zC,zD,zE,zF])
      refine wpG_one (i:=1) (by kernel_rfl) rfl (fun K hK=>?_);have HK:=Lib.hid hK;clear hK
      go_simp
      (with_reducible refine (SA.out _ YD.out.b).mono ?_)
      rintro e wa ⟨rfl,hb⟩
      have Ywa:=Lib.hid (YD.out.then hb)
      refine HK.out _ _ (Or.inr ⟨kb_cell Ywa.out.k0 (i:=0) rfl,kb_cell Ywa.out.k0 (i:=1) rfl,kb_cell Ywa.out.k0 (i:=2) rfl,kb_cell Ywa.out.k1 (i:=0) rfl,kb_cell Ywa.out.k1 (i:=1) rfl,kb_cell Ywa.out.k1 (i:=2) rfl⟩) ?_
      clear hb hS HK K
      (try simp only [Act.put,zA,zB,zC,zD,zE,zF])
      refine wpG_one (i:=3) (by kernel_rfl) rfl (fun K hK=>?_);have HK:=Lib.hid hK;clear hK
      go_simp
      (with_reducible refine (SB.out _ Ywa.out.b).mono ?_)
      rintro e wb ⟨rfl,hb⟩
      have Ywb:=Lib.hid (Ywa.out.then hb)
      refine HK.out _ _ (Or.inl (by kernel_rfl)) ?_
      clear hb HK K
      (try simp only [Act.put,zA,zB,zC,zD,zE,zF])
      (refine wpG_take (i:=4) (v:=?_) rfl rfl (by kernel_rfl) (by kernel_rfl) (by kernel_rfl) (fun _ _ _ h=>h) (Or.inl ⟨by rfl,fun w=>?_⟩) (Or.inl (by kernel_rfl)) ?_;rotate_left;focus (go_simp;first|done|with_reducible rfl|exact rfl));(try simp only [Act.put,zA,zB,zC,zD,zE,zF]);(refine wpG_take (i:=5) (v:=?_) rfl rfl (by kernel_rfl) (by kernel_rfl) (by kernel_rfl) (fun _ _ _ h=>h) (Or.inl ⟨by rfl,fun w=>?_⟩) (Or.inl (by kernel_rfl)) ?_;rotate_left;focus (go_simp;first|done|with_reducible rfl|exact rfl));(try simp only [Act.put,zA,zB,zC,zD,zE,zF])
      refine wpG_done (by kernel_rfl) ?_ _
      go_wp2
      go_ret
      exact ⟨rfl,Ywb.out.b⟩
end Go.Proofs.YtmndoelimincdaaGreatDoor
namespace Go.Proofs.YtmndoelimincdaaGreatDoor
open Go Go.RowKit Nv GFl
open Go.Proofs.YtmndoelimincdaaGreatDoorW.PrintWords (Kd own_move own_ne own_lt own_base own_typed)
open XBn
set_option maxRecDepth 100000
set_option linter.unusedSimpArgs false
theorem YS.up {w:World} {d:Value} {k K:Nat} {E z:Int} (h:YS w d k K E z) (j:Nat):YS w d k (K + j) E (z * ((p2 j:Nat):Int)):=by
  obtain ⟨g,m,x,h1,h2,h3,h4,h5⟩:=h
  refine ⟨g,m,x,h1,h2,by push_cast;omega,h4,?_⟩
  rw [show (x + ((K + j:Nat):Int)).toNat=(x + K).toNat + j by omega,p2_add,Int.natCast_mul,← Int.mul_assoc,h5]
theorem YS.agg {w:World} {d:Value} {k K:Nat} {E z:Int} (h:YS w d k K E z):∃ g A n c x,d=.agg #[.bool g,.slice A n c,.int .i64 x]:=by
  obtain ⟨g,m,x,⟨A,c,rfl,_⟩,_⟩:=h
  exact ⟨g,A,_,c,x,rfl⟩
theorem YS.set3 {w:World} {b n c k K:Nat} {d:Value} {A:Option Addr} {g0 G:Bool} {E z x0 X:Int} {v0:Value} (h:YS w d k K E z) (hb:w.heap[b]?=some (.cells #[.bool g0,v0,.int .i64 x0] 48 (0,0))) (hv:∀ z,v0 ≠ .int .u64 z):YS (((w.setCell ⟨b,0,none⟩ (.bool G)).setCell ⟨b,1,none⟩ (.slice A n c)).setCell ⟨b,2,none⟩ (.int .i64 X)) d k K E z:=by
  obtain ⟨g,m,x,h1,h2⟩:=h
  exact ⟨g,m,x,h1.set3 hb hv,h2⟩
def ZY (k K:Nat) (E z:Int) (w:World) (e:Ending) (w':World):Prop:=∃ d,e=.returned d∧YS w' d k K E z∧Below w.heap.size w w'
theorem ycmp_s {W:World} {u v:Value} {k l K:Nat} {E E' z z':Int} (h:YS W u k K E z) (h':YS W v l K E' z') :
    Calls Tryz.prog 67 #[u,v] W fun e w'=>e=.returned (.tuple #[.int .i64 (cmpZ z z'),.int .i64 0])∧Below W.heap.size W w':=by
  obtain ⟨g,m,x,h1,r,h2,h3,h4⟩:=h
  obtain ⟨g',m',x',j1,r',j2,j3,j4⟩:=h'
  have:=ycmp1 h1 r j1 r' h2 j2
  rw [h4,j4] at this
  exact this
set_option maxHeartbeats 1000000 in
theorem rof_c (x:Nat) (hx:W64 x) (hf:rg x < 9218868437227405312) (W:World) (hT:Tab W):Calls Tryz.prog 37 #[.float .f64 x] W (ZY 1 1074 1023 (val x) W):=by
  have OC:Hid (∀ w,Below W.heap.size W w→Calls Tryz.prog 68 #[.float .f64 x] w (YPost 1 1074 1023 (val x) w)):=Lib.hid (fun w hb=>(yof_c x hx hf w (hT.below hb)).mono fun e w' ⟨d,g,m,y,h1,h2,h3,h4⟩=>⟨d,h1,fdy_ys h2 h3,h4⟩)
  clear hx hf hT
  have B0:=Lib.hid (bl_alloc (Below.refl W.heap.size W) nilD)
  have K0:=Lib.hid (kb_new (w:=W) (o:=nilD) (Below.refl _ _))
  go_enter Tryz.func37,Tryz.ntmps37
  go_upto_region 2 with (first
    | (go_at_call 68;(with_reducible refine (OC.out _ B0.out).mono ?_);rintro e w1 ⟨d,rfl,hd,hb⟩;obtain ⟨g,A,n,c,y,rfl⟩:=hd.agg;have HD:=Lib.hid hd;have B1:=Lib.hid (bl_then B0.out hb);have K1:=Lib.hid (kb_keep hb K0.out);clear hd hb))
  have B2:=Lib.hid (bl_alloc B1.out (.cells #[.bool g,.slice A n c,.int .i64 y] 48))
  have K2:=Lib.hid (kb_alloc (o':=.cells #[.bool g,.slice A n c,.int .i64 y] 48) K1.out)
  have N2:=Lib.hid (kb_new (w:=w1) (o:=.cells #[.bool g,.slice A n c,.int .i64 y] 48) (Below.refl _ _))
  have H2:=Lib.hid (HD.out.below (bl_alloc (Below.refl w1.heap.size w1) (.cells #[.bool g,.slice A n c,.int .i64 y] 48)))
  obtain ⟨w2,hw2⟩:∃ w,w1.alloc (.cells #[.bool g,.slice A n c,.int .i64 y] 48)=w:=⟨_,rfl⟩
  obtain ⟨b2,hb2⟩:∃ b,w1.heap.size=b:=⟨_,rfl⟩
  rw [hw2] at B2 K2 N2 H2
  rw [hb2] at N2
  simp only [hw2,hb2]
  clear hw2 hb2
  have a0:=kb_cell N2.out (i:=0) rfl
  have a1:=kb_cell N2.out (i:=1) rfl
  have a2:=kb_cell N2.out (i:=2) rfl
  have d0:=kb_cell K2.out (i:=0) rfl
  have d1:=kb_cell K2.out (i:=1) rfl
  have d2:=kb_cell K2.out (i:=2) rfl
  have f0:=kb_frozen K2.out 0
  have f1:=kb_frozen K2.out 1
  have f2:=kb_frozen K2.out 2
  go_wp2
  have y0:=rw_setc K2.out 0 (.bool g)
  have y1:=rw_setc y0 1 (.slice A n c)
  have y2:=rw_setc y1 2 (.int .i64 y)
  have z0:=kb_cell y2 (i:=0) rfl
  have z1:=kb_cell y2 (i:=1) rfl
  have z2:=kb_cell y2 (i:=2) rfl
  refine bodyPost_ret (v:=.agg #[.bool g,.slice A n c,.int .i64 y]) (by simp [results,Tryz.results37,go_sem,z0,z1,z2]) rfl ?_
  exact ⟨_,rfl,H2.out.set3 K2.out (fun z h=>by cases h),bl_set (bl_set (bl_set B2.out _ (Nat.le_refl _)) _ (Nat.le_refl _)) _ (Nat.le_refl _)⟩
set_option maxHeartbeats 1000000 in
theorem rtimes_c {W:World} {u v:Value} {k l K K':Nat} {E E' z z':Int} (h:YS W u k K E z) (h':YS W v l K' E' z') (hk:k + l≤256) (hK:K + K'≤13000) (hE:E + E'≤13000) (hE0:0≤E + E') :
    Calls Tryz.prog 38 #[u,v] W (ZY (k + l) (K + K') (E + E') (z * z') W):=by
  have MC:Hid (∀ w,Below W.heap.size W w→Calls Tryz.prog 69 #[u,v] w (YPost (k + l) (K + K') (E + E') (z * z') w)):=Lib.hid (fun w hb=>ymul_s (h.below hb) (h'.below hb) hk hK hE hE0)
  obtain ⟨g,A,n,c,x,rfl⟩:=h.agg
  obtain ⟨g',A',n',c',x',rfl⟩:=h'.agg
  clear h h' hk hK hE hE0
  have Y0:=Lib.hid (yx_new W #[.bool g,.slice A n c,.int .i64 x] #[.bool g',.slice A' n' c',.int .i64 x'])
  have d0:=kb_cell Y0.out.k0 (i:=0) rfl
  have d1:=kb_cell Y0.out.k0 (i:=1) rfl
  have d2:=kb_cell Y0.out.k0 (i:=2) rfl
  have e0:=kb_cell Y0.out.k1 (i:=0) rfl
  have e1:=kb_cell Y0.out.k1 (i:=1) rfl
  have e2:=kb_cell Y0.out.k1 (i:=2) rfl
  go_enter Tryz.func38,Tryz.ntmps38
  go_upto_region 2 with (first
    | (go_at_call 69;(with_reducible refine (MC.out _ Y0.out.b).mono ?_);rintro e w1 ⟨d,rfl,hd,hb⟩;obtain ⟨g2,A2,n2,c2,y,rfl⟩:=hd.agg;have HD:=Lib.hid hd;have Y1:=Lib.hid (Y0.out.then hb);clear hd hb))
  clear d0 d1 d2 e0 e1 e2
  have B2:=Lib.hid (bl_alloc Y1.out.b (.cells #[.bool g2,.slice A2 n2 c2,.int .i64 y] 48))
  have K2:=Lib.hid (kb_alloc (o':=.cells #[.bool g2,.slice A2 n2 c2,.int .i64 y] 48) Y1.out.k2)
  have N2:=Lib.hid (kb_new (w:=w1) (o:=.cells #[.bool g2,.slice A2 n2 c2,.int .i64 y] 48) (Below.refl _ _))
  have H2:=Lib.hid (HD.out.below (bl_alloc (Below.refl w1.heap.size w1) (.cells #[.bool g2,.slice A2 n2 c2,.int .i64 y] 48)))
  obtain ⟨w2,hw2⟩:∃ w,w1.alloc (.cells #[.bool g2,.slice A2 n2 c2,.int .i64 y] 48)=w:=⟨_,rfl⟩
  obtain ⟨b2,hb2⟩:∃ b,w1.heap.size=b:=⟨_,rfl⟩
  rw [hw2] at B2 K2 N2 H2
  rw [hb2] at N2
  simp only [hw2,hb2]
  clear hw2 hb2
  have a0:=kb_cell N2.out (i:=0) rfl
  have a1:=kb_cell N2.out (i:=1) rfl
  have a2:=kb_cell N2.out (i:=2) rfl
  have d0:=kb_cell K2.out (i:=0) rfl
  have d1:=kb_cell K2.out (i:=1) rfl
  have d2:=kb_cell K2.out (i:=2) rfl
  have f0:=kb_frozen K2.out 0
  have f1:=kb_frozen K2.out 1
  have f2:=kb_frozen K2.out 2
  go_wp2
  have y0:=rw_setc K2.out 0 (.bool g2)
  have y1:=rw_setc y0 1 (.slice A2 n2 c2)
  have y2:=rw_setc y1 2 (.int .i64 y)
  have z0:=kb_cell y2 (i:=0) rfl
  have z1:=kb_cell y2 (i:=1) rfl
  have z2:=kb_cell y2 (i:=2) rfl
  refine bodyPost_ret (v:=.agg #[.bool g2,.slice A2 n2 c2,.int .i64 y]) (by simp [results,Tryz.results38,go_sem,z0,z1,z2]) rfl ?_
  have hW:W.heap.size≤W.heap.size + 1 + 1:=by omega
  exact ⟨_,rfl,H2.out.set3 K2.out (fun z h=>by cases h),bl_set (bl_set (bl_set B2.out _ hW) _ hW) _ hW⟩
set_option maxHeartbeats 1000000 in
theorem rcmp_c {W:World} {u v:Value} {k l K:Nat} {E E' z z':Int} (h:YS W u k K E z) (h':YS W v l K E' z') :
    Calls Tryz.prog 36 #[u,v] W fun e w'=>e=.returned (.int .i64 (cmpZ z z'))∧Below W.heap.size W w':=by
  have CC:Hid (∀ w,Below W.heap.size W w→Calls Tryz.prog 67 #[u,v] w fun e w'=>e=.returned (.tuple #[.int .i64 (cmpZ z z'),.int .i64 0])∧Below w.heap.size w w'):=Lib.hid (fun w hb=>ycmp_s (h.below hb) (h'.below hb))
  obtain ⟨g,A,n,c,x,rfl⟩:=h.agg
  obtain ⟨g',A',n',c',x',rfl⟩:=h'.agg
  clear h h'
  have Y0:=Lib.hid (y2_new W #[.bool g,.slice A n c,.int .i64 x] #[.bool g',.slice A' n' c',.int .i64 x'])
  have d0:=kb_cell Y0.out.k0 (i:=0) rfl
  have d1:=kb_cell Y0.out.k0 (i:=1) rfl
  have d2:=kb_cell Y0.out.k0 (i:=2) rfl
  have e0:=kb_cell Y0.out.k1 (i:=0) rfl
  have e1:=kb_cell Y0.out.k1 (i:=1) rfl
  have e2:=kb_cell Y0.out.k1 (i:=2) rfl
  go_enter Tryz.func36,Tryz.ntmps36
  go_wp2_with (first
    | (go_at_call 67;(with_reducible refine (CC.out _ Y0.out.b).mono ?_);rintro e w1 ⟨rfl,hb⟩;have B1:=Lib.hid (bl_then Y0.out.b hb);clear hb))
  go_ret
  exact ⟨rfl,B1.out⟩
end Go.Proofs.YtmndoelimincdaaGreatDoor
namespace Go.Proofs.YtmndoelimincdaaGreatDoor
open Go Go.RowKit GFl Ieee Nv
set_option maxRecDepth 100000
set_option linter.unusedSimpArgs false
attribute [local go_sem] run_f64bits run_f64frombits run_neg_f64
theorem prod_nn {a b d:Datum} (h:a.product b=some d):∀ s p,d ≠ .nan s p:=by
  intro s p e
  subst e
  cases a <;> cases b <;> simp [Datum.product] at h
theorem mul_opt {x y s:Nat} (h:double.mul x y=some s):W64 s∧rg s≤9218868437227405312:=by
  unfold Format.mul at h
  obtain ⟨d,hd,rfl⟩:=Option.map_eq_some_iff.1 h
  exact write_w (prod_nn hd)
theorem quo_nn {k:Nat} {a b d:Datum} (h:a.quotient k b=some d):∀ s p,d ≠ .nan s p:=by
  intro s p e
  subst e
  cases a <;> cases b <;> simp [Datum.quotient] at h <;> (repeat' split at h) <;> simp at h
theorem div_opt {x y s:Nat} (h:double.div x y=some s):W64 s∧rg s≤9218868437227405312:=by
  unfold Format.div at h
  obtain ⟨d,hd,rfl⟩:=Option.map_eq_some_iff.1 h
  exact write_w (quo_nn hd)
theorem cmpZ_sign (a b:Int):cmpZ a b=(a - b).sign:=by
  unfold cmpZ
  rcases Int.lt_trichotomy a b with h|h|h
  · rw [if_pos h,Int.sign_eq_neg_one_of_neg (by omega)]
  · subst h;simp
  · rw [if_neg (by omega),if_pos h,Int.sign_eq_one_of_pos (by omega)]
def okB (a b:Nat):Bool:=fin a && fin b && !decide (rg a=0) && !decide (rg b=0)
def mulR (a b:Nat) (m:Int):Option Nat:=if okB a b=true then (double.mul a b).map (fun p=>settleW p (mulS a b p) (wayI m)) else double.mul a b
def divR (a b:Nat) (m:Int):Option Nat:=if okB a b=true then (double.div a b).map (fun p=>settleW p (divS a b p) (wayI m)) else double.div a b
theorem fin_r {x:Nat} (h:fin x=true):rg x < 9218868437227405312:=by unfold fin at h;simpa using h
theorem okB_t {a b:Nat} (fa:fin a=true) (fb:fin b=true) (za:rg a ≠ 0) (zb:rg b ≠ 0):okB a b=true:=by unfold okB;rw [fa,fb,decide_eq_false za,decide_eq_false zb];rfl
theorem okB_n {a b:Nat} (h:(fin a && fin b)=false):okB a b=false:=by unfold okB;rw [h];rfl
theorem okB_a {a b:Nat} (h:rg a=0):okB a b=false:=by unfold okB;rw [decide_eq_true h];simp
theorem okB_b {a b:Nat} (h:rg b=0):okB a b=false:=by unfold okB;rw [decide_eq_true h];simp
theorem mulR_no {a b:Nat} {m:Int} (h:okB a b=false):mulR a b m=double.mul a b:=by unfold mulR;rw [h];rfl
theorem divR_no {a b:Nat} {m:Int} (h:okB a b=false):divR a b m=double.div a b:=by unfold divR;rw [h];rfl
theorem mulR_ok {a b p:Nat} {m:Int} (h:okB a b=true) (e:double.mul a b=some p):mulR a b m=some (settleW p (mulS a b p) (wayI m)):=by unfold mulR;rw [h,e];rfl
theorem divR_ok {a b p:Nat} {m:Int} (h:okB a b=true) (e:double.div a b=some p):divR a b m=some (settleW p (divS a b p) (wayI m)):=by unfold divR;rw [h,e];rfl
theorem settle_inf {p:Nat} {o m:Int} (h:rg p=9218868437227405312):settleW p o m=settleW p 0 m:=by unfold settleW;rw [if_pos h,if_pos h]
theorem plain_rg {x:Nat} (h:plainF x=true):553942754166571008≤rg x∧rg x < 9218868437227405312:=by
  unfold plainF at h
  have h:=of_decide_eq_true h
  omega
theorem sign_rng (v:Int):v.sign=-1 ∨ v.sign=0 ∨ v.sign=1:=by
  rcases Int.lt_trichotomy v 0 with h|h|h
  · rw [Int.sign_eq_neg_one_of_neg h];simp
  · subst h;simp
  · rw [Int.sign_eq_one_of_pos h];simp
theorem cmp_wrap (x y:Int) (b:Nat):wrap64 (cmpZ x y * sgI b)=cmpZ x y * sgI b:=by
  rw [cmpZ_sign]
  have h1:=sign_rng (x - y)
  obtain ⟨h3,h4⟩:=sgI_rng b
  rcases h1 with h|h|h <;> rw [h] <;> unfold wrap64 <;> omega
set_option maxHeartbeats 8000000 in
theorem rmul_c (a b:Nat) (m:Int) (ha:W64 a) (hb:W64 b) (w:World) (hT:Tab w) :
    Calls Tryz.prog 19 #[.float .f64 a,.float .f64 b,.int .i8 m] w fun e w'=>∃ r,e=.returned (.float .f64 r)∧Fo (mulR a b m) r∧Below w.heap.size w w':=by
  have fn:∀ (w:World) (bl:Nat),bl=w.heap.size→Calls Tryz.prog 31 #[.slice (some ⟨bl,0,none⟩) 2 2] (w.alloc (.cells #[.float .f64 a,.float .f64 b] 22)) fun e w'=>e=.returned (.bool (fin a && fin b))∧w.alloc (.cells #[.float .f64 a,.float .f64 b] 22)=w':=fun w bl h=>h ▸
    (finite_c _ [a,b] (by simp) (by simp [ha,hb]) _ (frow2 a b w _)).mono fun _ _ h=>⟨by rw [h.1];simp,h.2⟩
  have WC:=Lib.hid (fun w=>way_c m w)
  by_cases hf:(fin a && fin b)=true
  · have fa:fin a=true:=by cases h:fin a <;> rw [h] at hf <;> simp at hf ⊢
    have fb:fin b=true:=by cases h:fin b <;> rw [h,fa] at hf <;> simp at hf ⊢
    have ra:=fin_r fa
    have rb:=fin_r fb
    rw [hf] at fn
    have FN:=Lib.hid fn
    clear fn hf
    by_cases za:rg a=0
    · have e0:(FloatKind.f64.format.order a 0 == some .eq)=true:=by rw [eqz ha (by omega),decide_eq_true za]
      have AR:=Lib.hid (mulR_no (m:=m) (okB_a (b:=b) za))
      clear ha hb hT fa fb ra rb za
      go_enter Tryz.func19,Tryz.ntmps19
      go_wp2_with (first|(go_at_call 29;refine (WC.out _).mono ?_;rintro e w' ⟨rfl,rfl⟩)|(refine wp_arith .f64 a b rfl rfl rfl ?_;intro r n hr;have HR:=Lib.hid (fo_of hr (fun y hy=>(mul_opt hy).1));clear hr)|(go_at_call 31;refine (FN.out _ _ (by simp)).mono ?_;rintro e w' ⟨rfl,rfl⟩))
      go_ret
      exact ⟨_,rfl,by rw [AR.out];exact HR.out,by repeat' (first|(with_reducible exact Below.refl _ _)|(with_reducible refine bl_alloc ?_ _)|(with_reducible refine bl_drewN ?_ _)|(with_reducible refine bl_drew ?_)|(with_reducible refine bl_set ?_ _ (by simp)))⟩
    · have e0:(FloatKind.f64.format.order a 0 == some .eq)=false:=by rw [eqz ha (by omega),decide_eq_false za]
      by_cases zb:rg b=0
      · have e1:(FloatKind.f64.format.order b 0 == some .eq)=true:=by rw [eqz hb (by omega),decide_eq_true zb]
        have AR:=Lib.hid (mulR_no (m:=m) (okB_b (a:=a) zb))
        clear ha hb hT fa fb ra rb za zb
        go_enter Tryz.func19,Tryz.ntmps19
        go_wp2_with (first|(go_at_call 29;refine (WC.out _).mono ?_;rintro e w' ⟨rfl,rfl⟩)|(refine wp_arith .f64 a b rfl rfl rfl ?_;intro r n hr;have HR:=Lib.hid (fo_of hr (fun y hy=>(mul_opt hy).1));clear hr)|(go_at_call 31;refine (FN.out _ _ (by simp)).mono ?_;rintro e w' ⟨rfl,rfl⟩))
        go_ret
        exact ⟨_,rfl,by rw [AR.out];exact HR.out,by repeat' (first|(with_reducible exact Below.refl _ _)|(with_reducible refine bl_alloc ?_ _)|(with_reducible refine bl_drewN ?_ _)|(with_reducible refine bl_drew ?_)|(with_reducible refine bl_set ?_ _ (by simp)))⟩
      · have e1:(FloatKind.f64.format.order b 0 == some .eq)=false:=by rw [eqz hb (by omega),decide_eq_false zb]
        obtain ⟨p,_,hp,pw,_,_,_⟩:=mul64x ha hb ra rb
        have pr:=(mul_opt hp).2
        have AR:=Lib.hid (mulR_ok (m:=m) (okB_t fa fb za zb) hp)
        have AW:Hid (W64 (settleW p (mulS a b p) (wayI m))):=Lib.hid (settle_w pw pr)
        have d0:∀ (t':TypeId) w,(binOp .mul t' (.float .f64 a) (.float .f64 b)).run Tryz.prog w=.ok (.float .f64 p) w:=fun t' w=>run_float_arith w .mul t' .f64 a b p hp
        have SC:=Lib.hid (fun off w=>settle_c p off (wayI m) pw pr w)
        have pl:∀ (w:World) (bl:Nat),bl=w.heap.size→Calls Tryz.prog 32 #[.slice (some ⟨bl,0,none⟩) 3 3] (w.alloc (.cells #[.float .f64 a,.float .f64 b,.float .f64 p] 22)) fun e w'=>e=.returned (.bool (plainF a && plainF b && plainF p))∧w.alloc (.cells #[.float .f64 a,.float .f64 b,.float .f64 p] 22)=w':=fun w bl h=>h ▸
          (plain_c _ [a,b,p] (by simp) (by simp [ha,hb,pw]) _ (frow3 a b p w _)).mono fun _ _ h=>⟨by rw [h.1];simp [Bool.and_assoc],h.2⟩
        have S2:=Lib.hid (fun w=>sign_c b hb w)
        by_cases hpl:(plainF a && plainF b && plainF p)=true
        · obtain ⟨⟨pa,_⟩,pp⟩:(plainF a=true∧plainF b=true)∧plainF p=true:=by simpa using hpl
          obtain ⟨g1,g2⟩:=plain_rg pp
          obtain ⟨t,ht,tw,ts⟩:=mul_side ha hb ra rb hp g2 g1
          rw [hpl] at pl
          have PL:=Lib.hid pl
          have D:=run_fma64 ht
          have S1:=Lib.hid (fun w=>sign_c t tw w)
          rw [ts] at S1
          clear ts S2
          clear pl hpl pa pp g1 g2 ht tw pw pr hp za zb ra rb fa fb ha hb hT
          go_enter Tryz.func19,Tryz.ntmps19
          go_wp2_with (first|(go_at_call 29;refine (WC.out _).mono ?_;rintro e w' ⟨rfl,rfl⟩)|(go_at_call 31;refine (FN.out _ _ (by simp)).mono ?_;rintro e w' ⟨rfl,rfl⟩)|(go_at_call 32;refine (PL.out _ _ (by simp)).mono ?_;rintro e w' ⟨rfl,rfl⟩)|(go_at_call 34;(with_reducible (first|refine (S1.out _).mono ?_));rintro e w' ⟨rfl,rfl⟩)|(go_at_call 33;refine (SC.out _ _).mono ?_;rintro e w' ⟨rfl,rfl⟩))
          go_ret
          exact ⟨_,rfl,Fo.mk AR.out AW.out,by repeat' (first|(with_reducible exact Below.refl _ _)|(with_reducible refine bl_alloc ?_ _)|(with_reducible refine bl_drewN ?_ _)|(with_reducible refine bl_drew ?_)|(with_reducible refine bl_set ?_ _ (by simp)))⟩
        · have hpl:(plainF a && plainF b && plainF p)=false:=by simpa using hpl
          rw [hpl] at pl
          have PL:=Lib.hid pl
          clear pl hpl
          have ii:Hid (∀ w,Calls Tryz.prog 50 #[.float .f64 p,.int .i64 0] w fun e w'=>e=.returned (.bool (decide (rg p=9218868437227405312)))∧w=w'):=Lib.hid (fun w=>(isInf_c p 0 pw w).mono fun _ _ h=>⟨by rw [h.1];unfold infS;simp,h.2.symm⟩)
          by_cases pi:rg p=9218868437227405312
          · rw [decide_eq_true pi] at ii
            rw [settle_inf pi] at AR AW
            clear pi pw pr hp za zb ra rb fa fb ha hb hT S2
            go_enter Tryz.func19,Tryz.ntmps19
            go_wp2_with (first|(go_at_call 29;refine (WC.out _).mono ?_;rintro e w' ⟨rfl,rfl⟩)|(go_at_call 31;refine (FN.out _ _ (by simp)).mono ?_;rintro e w' ⟨rfl,rfl⟩)|(go_at_call 32;refine (PL.out _ _ (by simp)).mono ?_;rintro e w' ⟨rfl,rfl⟩)|(go_at_call 50;refine (ii.out _).mono ?_;rintro e w' ⟨rfl,rfl⟩)|(go_at_call 33;refine (SC.out _ _).mono ?_;rintro e w' ⟨rfl,rfl⟩))
            go_ret
            exact ⟨_,rfl,Fo.mk AR.out AW.out,by repeat' (first|(with_reducible exact Below.refl _ _)|(with_reducible refine bl_alloc ?_ _)|(with_reducible refine bl_drewN ?_ _)|(with_reducible refine bl_drew ?_)|(with_reducible refine bl_set ?_ _ (by simp)))⟩
          · rw [decide_eq_false pi] at ii
            have rp:rg p < 9218868437227405312:=by omega
            have OA:Hid (∀ w',Below w.heap.size w w'→Calls Tryz.prog 37 #[.float .f64 a] w' (ZY 1 1074 1023 (val a) w')):=Lib.hid (fun w' h=>rof_c a ha ra w' (hT.below h))
            have OB:Hid (∀ w',Below w.heap.size w w'→Calls Tryz.prog 37 #[.float .f64 b] w' (ZY 1 1074 1023 (val b) w')):=Lib.hid (fun w' h=>rof_c b hb rb w' (hT.below h))
            have OP:Hid (∀ w',Below w.heap.size w w'→Calls Tryz.prog 37 #[.float .f64 p] w' (ZY 1 1074 1023 (val p) w')):=Lib.hid (fun w' h=>rof_c p pw rp w' (hT.below h))
            have TM:Hid (∀ w u v,YS w u 1 1074 1023 (val a)→YS w v 1 1074 1023 (val b)→Calls Tryz.prog 38 #[u,v] w (ZY 2 2148 2046 (val a * val b) w)):=Lib.hid (fun w u v h1 h2=>rtimes_c h1 h2 (by decide) (by decide) (by decide) (by decide))
            have CM:Hid (∀ w u v,YS w u 2 2148 2046 (val a * val b)→YS w v 1 1074 1023 (val p)→Calls Tryz.prog 36 #[u,v] w fun e w'=>e=.returned (.int .i64 (mulS a b p))∧Below w.heap.size w w'):=Lib.hid (fun w u v h1 h2=>(rcmp_c h1 (h2.up 1074)).mono fun _ _ h=>⟨by rw [h.1,cmpZ_sign];rfl,h.2⟩)
            obtain ⟨off,ho⟩:∃ o,mulS a b p=o:=⟨_,rfl⟩
            rw [ho] at AR AW CM
            clear pi pw pr hp za zb ra rb rp fa fb ha hb hT ho S2
            go_enter Tryz.func19,Tryz.ntmps19
            go_wp2_with (first
            | (go_at_call 29;refine (WC.out _).mono ?_;rintro e w' ⟨rfl,rfl⟩)
            | (go_at_call 31;refine (FN.out _ _ (by simp)).mono ?_;rintro e w' ⟨rfl,rfl⟩)
            | (go_at_call 32;refine (PL.out _ _ (by simp)).mono ?_;rintro e w' ⟨rfl,rfl⟩)
            | (go_at_call 50;refine (ii.out _).mono ?_;rintro e w' ⟨rfl,rfl⟩)
            | (go_at_call 37;(with_reducible refine (OA.out _ (by repeat' (first|(with_reducible exact Below.refl _ _)|(with_reducible refine bl_alloc ?_ _)|(with_reducible refine bl_drewN ?_ _)|(with_reducible refine bl_drew ?_)|(with_reducible refine bl_set ?_ _ (by simp))))).mono ?_);rintro e w1 ⟨uA,rfl,hu,hb⟩;have UA:=Lib.hid hu;have B0:=Lib.hid (bl_then (show Below w.heap.size w _ by repeat' (first|(with_reducible exact Below.refl _ _)|(with_reducible refine bl_alloc ?_ _)|(with_reducible refine bl_drewN ?_ _)|(with_reducible refine bl_drew ?_)|(with_reducible refine bl_set ?_ _ (by simp)))) hb);clear hu hb)
            | (go_at_call 37;(with_reducible refine (OB.out _ B0.out).mono ?_);rintro e w2 ⟨uB,rfl,hu,hb⟩;have UA:=Lib.hid (UA.out.below hb);have UB:=Lib.hid hu;have B0:=Lib.hid (bl_then B0.out hb);clear hu hb)
            | (go_at_call 37;(with_reducible refine (OP.out _ B0.out).mono ?_);rintro e w3 ⟨uP,rfl,hu,hb⟩;have UM:=Lib.hid (UM.out.below hb);have UP:=Lib.hid hu;have B0:=Lib.hid (bl_then B0.out hb);clear hu hb)
            | (go_at_call 38;(with_reducible refine (TM.out _ _ _ UA.out UB.out).mono ?_);rintro e w5 ⟨uM,rfl,hu,hb⟩;have UM:=Lib.hid hu;have B0:=Lib.hid (bl_then B0.out hb);clear hu hb)
            | (go_at_call 36;(with_reducible refine (CM.out _ _ _ UM.out UP.out).mono ?_);rintro e w6 ⟨rfl,hb⟩;have B0:=Lib.hid (bl_then B0.out hb);clear hb)
            | (go_at_call 33;refine (SC.out _ _).mono ?_;rintro e w' ⟨rfl,rfl⟩))
            go_ret
            exact ⟨_,rfl,Fo.mk AR.out AW.out,B0.out⟩
  · have hf:(fin a && fin b)=false:=by simpa using hf
    rw [hf] at fn
    have FN:=Lib.hid fn
    have AR:=Lib.hid (mulR_no (m:=m) (okB_n hf))
    clear fn hf ha hb hT
    go_enter Tryz.func19,Tryz.ntmps19
    go_wp2_with (first|(go_at_call 29;refine (WC.out _).mono ?_;rintro e w' ⟨rfl,rfl⟩)|(refine wp_arith .f64 a b rfl rfl rfl ?_;intro r n hr;have HR:=Lib.hid (fo_of hr (fun y hy=>(mul_opt hy).1));clear hr)|(go_at_call 31;refine (FN.out _ _ (by simp)).mono ?_;rintro e w' ⟨rfl,rfl⟩))
    go_ret
    exact ⟨_,rfl,by rw [AR.out];exact HR.out,by repeat' (first|(with_reducible exact Below.refl _ _)|(with_reducible refine bl_alloc ?_ _)|(with_reducible refine bl_drewN ?_ _)|(with_reducible refine bl_drew ?_)|(with_reducible refine bl_set ?_ _ (by simp)))⟩
set_option maxHeartbeats 8000000 in
theorem rdiv_c (a b:Nat) (m:Int) (ha:W64 a) (hb:W64 b) (w:World) (hT:Tab w) :
    Calls Tryz.prog 21 #[.float .f64 a,.float .f64 b,.int .i8 m] w fun e w'=>∃ r,e=.returned (.float .f64 r)∧Fo (divR a b m) r∧Below w.heap.size w w':=by
  have fn:∀ (w:World) (bl:Nat),bl=w.heap.size→Calls Tryz.prog 31 #[.slice (some ⟨bl,0,none⟩) 2 2] (w.alloc (.cells #[.float .f64 a,.float .f64 b] 22)) fun e w'=>e=.returned (.bool (fin a && fin b))∧w.alloc (.cells #[.float .f64 a,.float .f64 b] 22)=w':=fun w bl h=>h ▸
    (finite_c _ [a,b] (by simp) (by simp [ha,hb]) _ (frow2 a b w _)).mono fun _ _ h=>⟨by rw [h.1];simp,h.2⟩
  have WC:=Lib.hid (fun w=>way_c m w)
  by_cases hf:(fin a && fin b)=true
  · have fa:fin a=true:=by cases h:fin a <;> rw [h] at hf <;> simp at hf ⊢
    have fb:fin b=true:=by cases h:fin b <;> rw [h,fa] at hf <;> simp at hf ⊢
    have ra:=fin_r fa
    have rb:=fin_r fb
    rw [hf] at fn
    have FN:=Lib.hid fn
    clear fn hf
    by_cases za:rg a=0
    · have e0:(FloatKind.f64.format.order a 0 == some .eq)=true:=by rw [eqz ha (by omega),decide_eq_true za]
      have AR:=Lib.hid (divR_no (m:=m) (okB_a (b:=b) za))
      clear ha hb hT fa fb ra rb za
      go_enter Tryz.func21,Tryz.ntmps21
      go_wp2_with (first|(go_at_call 29;refine (WC.out _).mono ?_;rintro e w' ⟨rfl,rfl⟩)|(refine wp_arith .f64 a b rfl rfl rfl ?_;intro r n hr;have HR:=Lib.hid (fo_of hr (fun y hy=>(div_opt hy).1));clear hr)|(go_at_call 31;refine (FN.out _ _ (by simp)).mono ?_;rintro e w' ⟨rfl,rfl⟩))
      go_ret
      exact ⟨_,rfl,by rw [AR.out];exact HR.out,by repeat' (first|(with_reducible exact Below.refl _ _)|(with_reducible refine bl_alloc ?_ _)|(with_reducible refine bl_drewN ?_ _)|(with_reducible refine bl_drew ?_)|(with_reducible refine bl_set ?_ _ (by simp)))⟩
    · have e0:(FloatKind.f64.format.order a 0 == some .eq)=false:=by rw [eqz ha (by omega),decide_eq_false za]
      by_cases zb:rg b=0
      · have e1:(FloatKind.f64.format.order b 0 == some .eq)=true:=by rw [eqz hb (by omega),decide_eq_true zb]
        have AR:=Lib.hid (divR_no (m:=m) (okB_b (a:=a) zb))
        clear ha hb hT fa fb ra rb za zb
        go_enter Tryz.func21,Tryz.ntmps21
        go_wp2_with (first|(go_at_call 29;refine (WC.out _).mono ?_;rintro e w' ⟨rfl,rfl⟩)|(refine wp_arith .f64 a b rfl rfl rfl ?_;intro r n hr;have HR:=Lib.hid (fo_of hr (fun y hy=>(div_opt hy).1));clear hr)|(go_at_call 31;refine (FN.out _ _ (by simp)).mono ?_;rintro e w' ⟨rfl,rfl⟩))
        go_ret
        exact ⟨_,rfl,by rw [AR.out];exact HR.out,by repeat' (first|(with_reducible exact Below.refl _ _)|(with_reducible refine bl_alloc ?_ _)|(with_reducible refine bl_drewN ?_ _)|(with_reducible refine bl_drew ?_)|(with_reducible refine bl_set ?_ _ (by simp)))⟩
      · have e1:(FloatKind.f64.format.order b 0 == some .eq)=false:=by rw [eqz hb (by omega),decide_eq_false zb]
        obtain ⟨p,_,hp,pw,_,_,_⟩:=div64x ha hb ra rb zb
        have pr:=(div_opt hp).2
        have AR:=Lib.hid (divR_ok (m:=m) (okB_t fa fb za zb) hp)
        have AW:Hid (W64 (settleW p (divS a b p) (wayI m))):=Lib.hid (settle_w pw pr)
        have d0:∀ (t':TypeId) w,(binOp .quo t' (.float .f64 a) (.float .f64 b)).run Tryz.prog w=.ok (.float .f64 p) w:=fun t' w=>run_float_arith w .quo t' .f64 a b p hp
        have SC:=Lib.hid (fun off w=>settle_c p off (wayI m) pw pr w)
        have pl:∀ (w:World) (bl:Nat),bl=w.heap.size→Calls Tryz.prog 32 #[.slice (some ⟨bl,0,none⟩) 3 3] (w.alloc (.cells #[.float .f64 a,.float .f64 b,.float .f64 p] 22)) fun e w'=>e=.returned (.bool (plainF a && plainF b && plainF p))∧w.alloc (.cells #[.float .f64 a,.float .f64 b,.float .f64 p] 22)=w':=fun w bl h=>h ▸
          (plain_c _ [a,b,p] (by simp) (by simp [ha,hb,pw]) _ (frow3 a b p w _)).mono fun _ _ h=>⟨by rw [h.1];simp [Bool.and_assoc],h.2⟩
        have S2:=Lib.hid (fun w=>sign_c b hb w)
        by_cases hpl:(plainF a && plainF b && plainF p)=true
        · obtain ⟨⟨pa,_⟩,pp⟩:(plainF a=true∧plainF b=true)∧plainF p=true:=by simpa using hpl
          obtain ⟨g1,g2⟩:=plain_rg pp
          obtain ⟨t,ht,tw,ts⟩:=div_side ha hb ra rb zb hp g2 g1 (plain_rg pa).1
          rw [hpl] at pl
          have PL:=Lib.hid pl
          have D:=run_fma64 ht
          have S1:=Lib.hid (fun w=>sign_c t tw w)
          have wm:=sgI_mul t b
          obtain ⟨u,hu⟩:∃ u,sgI t=u:=⟨_,rfl⟩
          obtain ⟨v,hv⟩:∃ v,sgI b=v:=⟨_,rfl⟩
          rw [hu] at S1 ts wm
          rw [hv] at S2 ts wm
          rw [← ts] at AR AW
          clear hu hv ts
          clear pl hpl pa pp g1 g2 ht tw pw pr hp za zb ra rb fa fb ha hb hT
          go_enter Tryz.func21,Tryz.ntmps21
          go_wp2_with (first|(go_at_call 29;refine (WC.out _).mono ?_;rintro e w' ⟨rfl,rfl⟩)|(go_at_call 31;refine (FN.out _ _ (by simp)).mono ?_;rintro e w' ⟨rfl,rfl⟩)|(go_at_call 32;refine (PL.out _ _ (by simp)).mono ?_;rintro e w' ⟨rfl,rfl⟩)|(go_at_call 34;(with_reducible (first|refine (S1.out _).mono ?_|refine (S2.out _).mono ?_));rintro e w' ⟨rfl,rfl⟩)|(go_at_call 33;refine (SC.out _ _).mono ?_;rintro e w' ⟨rfl,rfl⟩))
          go_ret
          exact ⟨_,rfl,Fo.mk AR.out AW.out,by repeat' (first|(with_reducible exact Below.refl _ _)|(with_reducible refine bl_alloc ?_ _)|(with_reducible refine bl_drewN ?_ _)|(with_reducible refine bl_drew ?_)|(with_reducible refine bl_set ?_ _ (by simp)))⟩
        · have hpl:(plainF a && plainF b && plainF p)=false:=by simpa using hpl
          rw [hpl] at pl
          have PL:=Lib.hid pl
          clear pl hpl
          have ii:Hid (∀ w,Calls Tryz.prog 50 #[.float .f64 p,.int .i64 0] w fun e w'=>e=.returned (.bool (decide (rg p=9218868437227405312)))∧w=w'):=Lib.hid (fun w=>(isInf_c p 0 pw w).mono fun _ _ h=>⟨by rw [h.1];unfold infS;simp,h.2.symm⟩)
          by_cases pi:rg p=9218868437227405312
          · rw [decide_eq_true pi] at ii
            rw [settle_inf pi] at AR AW
            clear pi pw pr hp za zb ra rb fa fb ha hb hT S2
            go_enter Tryz.func21,Tryz.ntmps21
            go_wp2_with (first|(go_at_call 29;refine (WC.out _).mono ?_;rintro e w' ⟨rfl,rfl⟩)|(go_at_call 31;refine (FN.out _ _ (by simp)).mono ?_;rintro e w' ⟨rfl,rfl⟩)|(go_at_call 32;refine (PL.out _ _ (by simp)).mono ?_;rintro e w' ⟨rfl,rfl⟩)|(go_at_call 50;refine (ii.out _).mono ?_;rintro e w' ⟨rfl,rfl⟩)|(go_at_call 33;refine (SC.out _ _).mono ?_;rintro e w' ⟨rfl,rfl⟩))
            go_ret
            exact ⟨_,rfl,Fo.mk AR.out AW.out,by repeat' (first|(with_reducible exact Below.refl _ _)|(with_reducible refine bl_alloc ?_ _)|(with_reducible refine bl_drewN ?_ _)|(with_reducible refine bl_drew ?_)|(with_reducible refine bl_set ?_ _ (by simp)))⟩
          · rw [decide_eq_false pi] at ii
            have rp:rg p < 9218868437227405312:=by omega
            have OA:Hid (∀ w',Below w.heap.size w w'→Calls Tryz.prog 37 #[.float .f64 a] w' (ZY 1 1074 1023 (val a) w')):=Lib.hid (fun w' h=>rof_c a ha ra w' (hT.below h))
            have OB:Hid (∀ w',Below w.heap.size w w'→Calls Tryz.prog 37 #[.float .f64 b] w' (ZY 1 1074 1023 (val b) w')):=Lib.hid (fun w' h=>rof_c b hb rb w' (hT.below h))
            have OP:Hid (∀ w',Below w.heap.size w w'→Calls Tryz.prog 37 #[.float .f64 p] w' (ZY 1 1074 1023 (val p) w')):=Lib.hid (fun w' h=>rof_c p pw rp w' (hT.below h))
            have TM:Hid (∀ w u v,YS w u 1 1074 1023 (val p)→YS w v 1 1074 1023 (val b)→Calls Tryz.prog 38 #[u,v] w (ZY 2 2148 2046 (val p * val b) w)):=Lib.hid (fun w u v h1 h2=>rtimes_c h1 h2 (by decide) (by decide) (by decide) (by decide))
            have CM:Hid (∀ w u v,YS w u 1 1074 1023 (val a)→YS w v 2 2148 2046 (val p * val b)→Calls Tryz.prog 36 #[u,v] w fun e w'=>e=.returned (.int .i64 (cmpZ (val a * ((p2 1074:Nat):Int)) (val p * val b)))∧Below w.heap.size w w'):=Lib.hid (fun w u v h1 h2=>rcmp_c (h1.up 1074) h2)
            have wm:=cmp_wrap (val a * ((p2 1074:Nat):Int)) (val p * val b) b
            have ho:cmpZ (val a * ((p2 1074:Nat):Int)) (val p * val b) * sgI b=divS a b p:=by rw [cmpZ_sign,sgI_val (by omega)];rfl
            rw [← ho] at AR AW
            obtain ⟨u,hu⟩:∃ u,cmpZ (val a * ((p2 1074:Nat):Int)) (val p * val b)=u:=⟨_,rfl⟩
            obtain ⟨v,hv⟩:∃ v,sgI b=v:=⟨_,rfl⟩
            rw [hu] at CM AR AW wm
            rw [hv] at S2 AR AW wm
            clear hu hv
            clear pi pw pr hp za zb ra rb rp fa fb ha hb hT ho
            go_enter Tryz.func21,Tryz.ntmps21
            go_wp2_with (first
            | (go_at_call 29;refine (WC.out _).mono ?_;rintro e w' ⟨rfl,rfl⟩)
            | (go_at_call 31;refine (FN.out _ _ (by simp)).mono ?_;rintro e w' ⟨rfl,rfl⟩)
            | (go_at_call 32;refine (PL.out _ _ (by simp)).mono ?_;rintro e w' ⟨rfl,rfl⟩)
            | (go_at_call 50;refine (ii.out _).mono ?_;rintro e w' ⟨rfl,rfl⟩)
            | (go_at_call 37;(with_reducible refine (OA.out _ (by repeat' (first|(with_reducible exact Below.refl _ _)|(with_reducible refine bl_alloc ?_ _)|(with_reducible refine bl_drewN ?_ _)|(with_reducible refine bl_drew ?_)|(with_reducible refine bl_set ?_ _ (by simp))))).mono ?_);rintro e w1 ⟨uA,rfl,hu,hb⟩;have UA:=Lib.hid hu;have B0:=Lib.hid (bl_then (show Below w.heap.size w _ by repeat' (first|(with_reducible exact Below.refl _ _)|(with_reducible refine bl_alloc ?_ _)|(with_reducible refine bl_drewN ?_ _)|(with_reducible refine bl_drew ?_)|(with_reducible refine bl_set ?_ _ (by simp)))) hb);clear hu hb)
            | (go_at_call 37;(with_reducible refine (OP.out _ B0.out).mono ?_);rintro e w2 ⟨uP,rfl,hu,hb⟩;have UA:=Lib.hid (UA.out.below hb);have UP:=Lib.hid hu;have B0:=Lib.hid (bl_then B0.out hb);clear hu hb)
            | (go_at_call 37;(with_reducible refine (OB.out _ B0.out).mono ?_);rintro e w3 ⟨uB,rfl,hu,hb⟩;have UA:=Lib.hid (UA.out.below hb);have UP:=Lib.hid (UP.out.below hb);have UB:=Lib.hid hu;have B0:=Lib.hid (bl_then B0.out hb);clear hu hb)
            | (go_at_call 38;(with_reducible refine (TM.out _ _ _ UP.out UB.out).mono ?_);rintro e w5 ⟨uM,rfl,hu,hb⟩;have UA:=Lib.hid (UA.out.below hb);have UM:=Lib.hid hu;have B0:=Lib.hid (bl_then B0.out hb);clear hu hb)
            | (go_at_call 36;(with_reducible refine (CM.out _ _ _ UA.out UM.out).mono ?_);rintro e w6 ⟨rfl,hb⟩;have B0:=Lib.hid (bl_then B0.out hb);clear hb)
            | (go_at_call 34;(with_reducible refine (S2.out _).mono ?_);rintro e w' ⟨rfl,rfl⟩)
            | (go_at_call 33;refine (SC.out _ _).mono ?_;rintro e w' ⟨rfl,rfl⟩))
            go_ret
            exact ⟨_,rfl,Fo.mk AR.out AW.out,B0.out⟩
  · have hf:(fin a && fin b)=false:=by simpa using hf
    rw [hf] at fn
    have FN:=Lib.hid fn
    have AR:=Lib.hid (divR_no (m:=m) (okB_n hf))
    clear fn hf ha hb hT
    go_enter Tryz.func21,Tryz.ntmps21
    go_wp2_with (first|(go_at_call 29;refine (WC.out _).mono ?_;rintro e w' ⟨rfl,rfl⟩)|(refine wp_arith .f64 a b rfl rfl rfl ?_;intro r n hr;have HR:=Lib.hid (fo_of hr (fun y hy=>(div_opt hy).1));clear hr)|(go_at_call 31;refine (FN.out _ _ (by simp)).mono ?_;rintro e w' ⟨rfl,rfl⟩))
    go_ret
    exact ⟨_,rfl,by rw [AR.out];exact HR.out,by repeat' (first|(with_reducible exact Below.refl _ _)|(with_reducible refine bl_alloc ?_ _)|(with_reducible refine bl_drewN ?_ _)|(with_reducible refine bl_drew ?_)|(with_reducible refine bl_set ?_ _ (by simp)))⟩
end Go.Proofs.YtmndoelimincdaaGreatDoor
