import Derived.Test.YtalhpbilkhdfhaaDoorTRTl
import Derived.Test.YtalhpbilkhdfhaaDoorTRTj
import Derived.Deep.LoopGhost
import Derived.Test.YtalhpbilkhdfhaaDoorTRTk
namespace Go.Proofs.YtalhpbilkhdfhaaDoor
open Go Go.RowKit Nv GFl
open Go.Proofs.YtalhpbilkhdfhaaDoorW.PrintWords (Kd own_move own_ne own_lt own_base own_typed)
open XBn
set_option maxRecDepth 100000
set_option linter.unusedSimpArgs false
set_option maxHeartbeats 1600000 in
theorem iadd_c {w:World} {z x y:Nat} {u v t:Int} (hz:IntAt w z u) (hx:IntAt w x v) (hy:IntAt w y t) (hs:Sm v.natAbs) (ks:Sm t.natAbs):Calls Tryd.prog 46 #[pt z,pt x,pt y] w (GPost z (v + t) w):=by
  obtain ⟨zg,zs,a,hz⟩:=hz.rd
  obtain ⟨xg,xs,b,hx⟩:=hx.rd
  obtain ⟨yg,ys,c,hy⟩:=hy.rd
  have e2:sg xg b + sg yg c=v + t:=by rw [hx.val,hy.val]
  have c0:=hx.blk.c0
  have c1:=hx.blk.c1
  have d0:=hy.blk.c0
  have d1:=hy.blk.c1
  have HZ0:=Lib.hid hz
  have E2:=Lib.hid e2
  have lw:∀ w',Below w.heap.size w w'→Calls Tryd.prog 69 #[.bool xg,xs,.bool yg,ys] w' (SPost (sg xg b + sg yg c) w'):=fun w' h=>sum_c xg yg (hx.wd.below h) (hy.wd.below h) (hx.sm hs) (hy.sm ks)
  have LW:=Lib.hid lw
  clear hz hx hy e2 hs ks lw
  go_enter Tryd.func46,Tryd.ntmps46
  go_wp2
  have hS:w.drew.cell? ⟨x,0,none⟩=some (.bool xg)∧w.drew.cell? ⟨x,1,none⟩=some xs∧w.drew.cell? ⟨y,0,none⟩=some (.bool yg)∧w.drew.cell? ⟨y,1,none⟩=some ys:=⟨c0,c1,d0,d1⟩
  refine wp_region_G (g:=17) (S:=fun w'=>w'.cell? ⟨x,0,none⟩=some (.bool xg)∧w'.cell? ⟨x,1,none⟩=some xs∧w'.cell? ⟨y,0,none⟩=some (.bool yg)∧w'.cell? ⟨y,1,none⟩=some ys) (by kernel_rfl) ?_
  (refine wpG_take (i:=0) (v:=?_) rfl rfl (by kernel_rfl) (by kernel_rfl) (by kernel_rfl) (fun _ _ _ h=>h) (Or.inl ⟨by rfl,fun w=>?_⟩) (Or.inr hS) ?_;rotate_left;focus (go_simp;first|done|with_reducible rfl|exact rfl));(try simp only [Act.put,zA,zB,zC,zD,zE,zF]);(refine wpG_take (i:=1) (v:=?_) rfl rfl (by kernel_rfl) (by kernel_rfl) (by kernel_rfl) (fun _ _ _ h=>h) (Or.inl ⟨by rfl,fun w=>?_⟩) (Or.inr hS) ?_;rotate_left;focus (go_simp;first|done|with_reducible rfl|exact rfl));(try simp only [Act.put,zA,zB,zC,zD,zE,zF]);(refine wpG_take (i:=2) (v:=?_) rfl rfl (by kernel_rfl) (by kernel_rfl) (by kernel_rfl) (fun _ _ _ h=>h) (Or.inl ⟨by rfl,fun w=>?_⟩) (Or.inr hS) ?_;rotate_left;focus (go_simp;first|done|with_reducible rfl|exact rfl));(try simp only [Act.put,zA,zB,zC,zD,zE,zF]);(refine wpG_take (i:=3) (v:=?_) rfl rfl (by kernel_rfl) (by kernel_rfl) (by kernel_rfl) (fun _ _ _ h=>h) (Or.inl ⟨by rfl,fun w=>?_⟩) (Or.inr hS) ?_;rotate_left;focus (go_simp;first|done|with_reducible rfl|exact rfl));(try simp only [Act.put,zA,zB,zC,zD,zE,zF])
  (refine wpG_ld (i:=4) 17 (v:=?_) rfl rfl (by kernel_rfl) (by kernel_rfl) (by kernel_rfl) (by kernel_rfl) (fun _ _ _ h=>h) (Or.inl ⟨by rfl,?_⟩) hS ?_;rotate_left;focus (intro w hSw;(try dsimp only at hSw);go_simp;first|done|with_reducible rfl|exact rfl));(try simp only [Act.put,zA,zB,zC,zD,zE,zF])
  (refine wpG_take (i:=5) (v:=?_) rfl rfl (by kernel_rfl) (by kernel_rfl) (by kernel_rfl) (fun _ _ _ h=>h) (Or.inl ⟨by rfl,fun w=>?_⟩) (Or.inr hS) ?_;rotate_left;focus (go_simp;first|done|with_reducible rfl|exact rfl));(try simp only [Act.put,zA,zB,zC,zD,zE,zF]);(refine wpG_take (i:=6) (v:=?_) rfl rfl (by kernel_rfl) (by kernel_rfl) (by kernel_rfl) (fun _ _ _ h=>h) (Or.inl ⟨by rfl,fun w=>?_⟩) (Or.inr hS) ?_;rotate_left;focus (go_simp;first|done|with_reducible rfl|exact rfl));(try simp only [Act.put,zA,zB,zC,zD,zE,zF]);(refine wpG_take (i:=7) (v:=?_) rfl rfl (by kernel_rfl) (by kernel_rfl) (by kernel_rfl) (fun _ _ _ h=>h) (Or.inl ⟨by rfl,fun w=>?_⟩) (Or.inr hS) ?_;rotate_left;focus (go_simp;first|done|with_reducible rfl|exact rfl));(try simp only [Act.put,zA,zB,zC,zD,zE,zF])
  (refine wpG_ld (i:=8) 17 (v:=?_) rfl rfl (by kernel_rfl) (by kernel_rfl) (by kernel_rfl) (by kernel_rfl) (fun _ _ _ h=>h) (Or.inl ⟨by rfl,?_⟩) hS ?_;rotate_left;focus (intro w hSw;(try dsimp only at hSw);go_simp;first|done|with_reducible rfl|exact rfl));(try simp only [Act.put,zA,zB,zC,zD,zE,zF])
  (refine wpG_take (i:=9) (v:=?_) rfl rfl (by kernel_rfl) (by kernel_rfl) (by kernel_rfl) (fun _ _ _ h=>h) (Or.inl ⟨by rfl,fun w=>?_⟩) (Or.inr hS) ?_;rotate_left;focus (go_simp;first|done|with_reducible rfl|exact rfl));(try simp only [Act.put,zA,zB,zC,zD,zE,zF]);(refine wpG_take (i:=10) (v:=?_) rfl rfl (by kernel_rfl) (by kernel_rfl) (by kernel_rfl) (fun _ _ _ h=>h) (Or.inl ⟨by rfl,fun w=>?_⟩) (Or.inr hS) ?_;rotate_left;focus (go_simp;first|done|with_reducible rfl|exact rfl));(try simp only [Act.put,zA,zB,zC,zD,zE,zF]);(refine wpG_take (i:=11) (v:=?_) rfl rfl (by kernel_rfl) (by kernel_rfl) (by kernel_rfl) (fun _ _ _ h=>h) (Or.inl ⟨by rfl,fun w=>?_⟩) (Or.inr hS) ?_;rotate_left;focus (go_simp;first|done|with_reducible rfl|exact rfl));(try simp only [Act.put,zA,zB,zC,zD,zE,zF])
  (refine wpG_ld (i:=12) 17 (v:=?_) rfl rfl (by kernel_rfl) (by kernel_rfl) (by kernel_rfl) (by kernel_rfl) (fun _ _ _ h=>h) (Or.inl ⟨by rfl,?_⟩) hS ?_;rotate_left;focus (intro w hSw;(try dsimp only at hSw);go_simp;first|done|with_reducible rfl|exact rfl));(try simp only [Act.put,zA,zB,zC,zD,zE,zF])
  (refine wpG_take (i:=13) (v:=?_) rfl rfl (by kernel_rfl) (by kernel_rfl) (by kernel_rfl) (fun _ _ _ h=>h) (Or.inl ⟨by rfl,fun w=>?_⟩) (Or.inr hS) ?_;rotate_left;focus (go_simp;first|done|with_reducible rfl|exact rfl));(try simp only [Act.put,zA,zB,zC,zD,zE,zF]);(refine wpG_take (i:=14) (v:=?_) rfl rfl (by kernel_rfl) (by kernel_rfl) (by kernel_rfl) (fun _ _ _ h=>h) (Or.inl ⟨by rfl,fun w=>?_⟩) (Or.inr hS) ?_;rotate_left;focus (go_simp;first|done|with_reducible rfl|exact rfl));(try simp only [Act.put,zA,zB,zC,zD,zE,zF]);(refine wpG_take (i:=15) (v:=?_) rfl rfl (by kernel_rfl) (by kernel_rfl) (by kernel_rfl) (fun _ _ _ h=>h) (Or.inl ⟨by rfl,fun w=>?_⟩) (Or.inr hS) ?_;rotate_left;focus (go_simp;first|done|with_reducible rfl|exact rfl));(try simp only [Act.put,zA,zB,zC,zD,zE,zF])
  (refine wpG_ld (i:=16) 17 (v:=?_) rfl rfl (by kernel_rfl) (by kernel_rfl) (by kernel_rfl) (by kernel_rfl) (fun _ _ _ h=>h) (Or.inl ⟨by rfl,?_⟩) hS ?_;rotate_left;focus (intro w hSw;(try dsimp only at hSw);go_simp;first|done|with_reducible rfl|exact rfl));(try simp only [Act.put,zA,zB,zC,zD,zE,zF])
  clear hS
  refine wpG_one (i:=17) (by kernel_rfl) rfl (fun K hK=>?_);have HK:=Lib.hid hK;clear hK
  go_simp
  refine (LW.out _ (dr_below _)).mono ?_
  rintro e w1 ⟨ng,v1,n,rfl,hW,hv,hb⟩
  have HW:=Lib.hid hW
  have HV:=Lib.hid hv
  have HB:=Lib.hid ((dr_below w).trans hb)
  refine HK.out _ _ (Or.inl (by kernel_rfl)) ?_
  clear hW hb HK K hv
  (try simp only [Act.put,zA,zB,zC,zD,zE,zF])
  (refine wpG_take (i:=18) (v:=?_) rfl rfl (by kernel_rfl) (by kernel_rfl) (by kernel_rfl) (fun _ _ _ h=>h) (Or.inl ⟨by rfl,fun w=>?_⟩) (Or.inl (by kernel_rfl)) ?_;rotate_left;focus (go_simp;first|done|with_reducible rfl|exact rfl));(try simp only [Act.put,zA,zB,zC,zD,zE,zF]);(refine wpG_take (i:=19) (v:=?_) rfl rfl (by kernel_rfl) (by kernel_rfl) (by kernel_rfl) (fun _ _ _ h=>h) (Or.inl ⟨by rfl,fun w=>?_⟩) (Or.inl (by kernel_rfl)) ?_;rotate_left;focus (go_simp;first|done|with_reducible rfl|exact rfl));(try simp only [Act.put,zA,zB,zC,zD,zE,zF])
  refine wpG_one (i:=20) (by kernel_rfl) rfl (fun K hK=>?_);have HK:=Lib.hid hK;clear hK
  go_simp
  refine (give_c (HZ0.out.blk.below HB.out) HZ0.out.wd.sl HW.out ng).mono ?_
  rintro e w2 ⟨rfl,hI,hz⟩
  have HI:=Lib.hid hI
  have HZ:=Lib.hid hz
  refine HK.out _ _ (Or.inl (by kernel_rfl)) ?_
  clear hI hz HK K
  (try simp only [Act.put,zA,zB,zC,zD,zE,zF])
  refine wpG_one (i:=21) (by kernel_rfl) rfl (fun K hK=>?_);have HK:=Lib.hid hK;clear hK;go_simp;refine HK.out _ _ (Or.inl (by kernel_rfl)) ?_;clear HK K;(try simp only [Act.put,zA,zB,zC,zD,zE,zF])
  refine wpG_done (by kernel_rfl) ?_ _
  go_wp2
  go_ret
  exact ⟨rfl,by rw [← E2.out,← HV.out];exact HI.out,(Bz.of HB.out).trans HZ.out⟩
theorem Wd.setD {w:World} {v:Value} {n:Int} {z:Nat} {cs:Array Value} (h:Wd w v n) (hz:w.heap[z]?=some (.cells cs 44 (0,0))) (i:Nat) (u:Value):Wd (w.setCell ⟨z,i,none⟩ u) v n:=by
  obtain ⟨A,c,l,rfl,hl,⟨hC,hT⟩,hN,hn⟩:=h
  have key:∀ ad:Addr,(∃ cells,w.heap[ad.block]?=some (.cells cells 96 (0,0)))→(w.setCell ⟨z,i,none⟩ u).heap[ad.block]?=w.heap[ad.block]?:=fun ad ⟨cells,hc⟩=>rw_far (fun e=>by
    rw [e,hz] at hc
    injection hc with h2
    injection h2 with _ h3
    exact absurd h3 (by decide)) i u
  refine ⟨A,c,l,rfl,hl,⟨⟨hC.1,hC.2.1,fun h0=>?_⟩,fun h0=>?_⟩,hN,hn⟩
  · obtain ⟨ad,e,hc⟩:=hC.2.2 h0
    obtain ⟨ad2,cells,e2,h2⟩:=hT h0
    have e3:ad=ad2:=Option.some.inj (e.symm.trans e2)
    subst e3
    have hb:=key ad ⟨cells,h2⟩
    refine ⟨ad,e,fun j p hp=>?_⟩
    obtain ⟨cs,h1,hK,hcs⟩:=hc j p hp
    refine ⟨cs,h1,hK,fun i' u' hu=>?_⟩
    have:(w.setCell ⟨z,i,none⟩ u).cell? (ad.add (j * (Kd.int .u32).sz + i'))=w.cell? (ad.add (j * (Kd.int .u32).sz + i')):=World.cell?_of_block (by rw [add_block];exact hb)
    rw [this]
    exact hcs i' u' hu
  · obtain ⟨ad,cells,e,h2⟩:=hT h0
    exact ⟨ad,cells,e,(key ad ⟨cells,h2⟩).trans h2⟩
theorem IntAt.setD {w:World} {b z:Nat} {v:Int} {cs:Array Value} (h:IntAt w b v) (hz:w.heap[z]?=some (.cells cs 44 (0,0))) (i:Nat) (u:Value):IntAt (w.setCell ⟨z,i,none⟩ u) b v:=by
  obtain ⟨ng,sl,n,h1,h2,h3,h4⟩:=h
  refine ⟨ng,sl,n,(rw_far (fun e=>?_) i u).trans h1,h2.setD hz i u,h3,h4⟩
  have h1:w.heap[b]?=some (.cells #[.bool ng,sl] 76 (0,0)):=h1
  rw [e,hz] at h1
  injection h1 with h5
  injection h5 with _ h6
  exact absurd h6 (by decide)
def set3 (w:World) (z:Nat) (a b c:Value):World:=((w.setCell ⟨z,0,none⟩ a).setCell ⟨z,1,none⟩ b).setCell ⟨z,2,none⟩ c
theorem set3_at {w:World} {z:Nat} {a b c a' b' c':Value} (h:w.heap[z]?=some (.cells #[a,b,c] 44 (0,0))):(set3 w z a' b' c').heap[z]?=some (.cells #[a',b',c'] 44 (0,0)):=rw_setc (rw_setc (rw_setc h 0 a') 1 b') 2 c'
theorem set3_far {w:World} {z k:Nat} {a b c:Value} (h:k ≠ z):(set3 w z a b c).heap[k]?=w.heap[k]?:=(rw_far h 2 c).trans ((rw_far h 1 b).trans (rw_far h 0 a))
theorem IntAt.set3 {w:World} {b z:Nat} {v:Int} {a b' c a' b'' c':Value} (h:IntAt w b v) (hz:w.heap[z]?=some (.cells #[a,b',c] 44 (0,0))):IntAt (set3 w z a' b'' c') b v :=
  ((h.setD hz 0 a').setD (rw_setc hz 0 a') 1 b'').setD (rw_setc (rw_setc hz 0 a') 1 b'') 2 c'
theorem YX.swap {W w:World} {h:Nat} {a b c a' b' c':Value} (k:YX W w h #[a,b,c] #[a',b',c']):YX W (set3 (set3 w h a' b' c') (h + 1) a b c) h #[a',b',c'] #[a,b,c]:=by
  have k1:(Go.Proofs.YtalhpbilkhdfhaaDoor.set3 w h a' b' c').heap[h + 1]?=some (.cells #[a',b',c'] 44 (0,0)):=(set3_far (by omega)).trans k.k1
  refine ⟨?_,k.g,(set3_far (by omega)).trans (set3_at k.k0),set3_at k1,(set3_far (by omega)).trans ((set3_far (by omega)).trans k.k2)⟩
  have hg:=k.g
  exact bl_set (bl_set (bl_set (bl_set (bl_set (bl_set k.b _ hg) _ hg) _ hg) _ (show W.heap.size≤h + 1 by omega)) _ (show W.heap.size≤h + 1 by omega)) _ (show W.heap.size≤h + 1 by omega)
theorem sgn_or {u t:Int} (h:u=0 ∨ t=0):(sgnI u == 0)=true ∨ ((sgnI u == 0)=false∧(sgnI t == 0)=true):=by
  by_cases hz:u=0
  · left;rw [hz];rfl
  · right
    refine ⟨by rw [beq_eq_false_iff_ne];unfold sgnI;(repeat' split) <;> omega,?_⟩
    rcases h with e|e
    · exact absurd e hz
    · rw [e];rfl
def addU (u x t x':Int):Int:=if u=0 ∨ t=0 then u + t else u * 2 ^ (x - min x x').toNat + t * 2 ^ (x' - min x x').toNat
def addX (u x t x':Int):Int:=if u=0 ∨ t=0 then x + x' else min x x'
set_option maxHeartbeats 8000000 in
theorem yadd1 {k l A':Nat} {g g':Bool} {m m':Nat} {x x':Int} {d d':Value} {W:World} (h:Dy W d g m x) (r:DR k g m x) (h':Dy W d' g' m' x') (r':DR l g' m' x') (hk:max k l + A' + 1≤200) (hA:x - x'≤64 * A'∧x' - x≤64 * A') (he:-13000≤x∧x≤13000) (he':-13000≤x'∧x'≤13000) :
    Calls Tryd.prog 29 #[d,d'] W (MadePost (max k l + A' + 1) (addU (sg g m) x (sg g' m') x') (addX (sg g m) x (sg g' m') x') W):=by
  have BC:Hid (∀ w,Below W.heap.size W w→Calls Tryd.prog 42 #[d,d'] w fun e w'=>e=.returned (.bool true)∧Below w.heap.size w w'):=Lib.hid (fun w hb=>yboth_c (h.below hb) r (h'.below hb) r')
  have WX:Hid (∀ w,Below W.heap.size W w→Calls Tryd.prog 43 #[d] w fun e w'=>∃ b,e=.returned (pt b)∧w.heap.size≤b∧IntAt w' b (sg g m)∧Below w.heap.size w w'):=Lib.hid (fun w hb=>ywhole_c (h.below hb) r)
  have WY:Hid (∀ w,Below W.heap.size W w→Calls Tryd.prog 43 #[d'] w fun e w'=>∃ b,e=.returned (pt b)∧w.heap.size≤b∧IntAt w' b (sg g' m')∧Below w.heap.size w w'):=Lib.hid (fun w hb=>ywhole_c (h'.below hb) r')
  have a1:(sg g m).natAbs=m:=by cases g <;> simp [sg]
  have a2:(sg g' m').natAbs=m':=by cases g' <;> simp [sg]
  have z1:sg g m=0→x=0:=fun e=>(r.z (by rw [← a1,e];rfl)).2
  have z2:sg g' m'=0→x'=0:=fun e=>(r'.z (by rw [← a2,e];rfl)).2
  have sm1:=r.sm
  have sm2:=r'.sm
  have bm:m < 2 ^ (64 * max k l):=Nat.lt_of_lt_of_le r.l (Nat.pow_le_pow_right (by decide) (by omega))
  have bm':m' < 2 ^ (64 * max k l):=Nat.lt_of_lt_of_le r'.l (Nat.pow_le_pow_right (by decide) (by omega))
  have bpow:∀ (q n:Nat),q < 2 ^ (64 * max k l)→n≤64 * A'→q * 2 ^ n < 2 ^ (64 * (max k l + A')):=fun q n hq hn=>by
    have h1:q * 2 ^ n < 2 ^ (64 * max k l) * 2 ^ n:=Nat.mul_lt_mul_of_pos_right hq (Nat.two_pow_pos _)
    rw [← Nat.pow_add] at h1
    exact Nat.lt_of_lt_of_le h1 (Nat.pow_le_pow_right (by decide) (by omega))
  have bsum:∀ (p q:Nat),p < 2 ^ (64 * (max k l + A'))→q < 2 ^ (64 * (max k l + A'))→p + q < 2 ^ (64 * (max k l + A' + 1)):=fun p q h1 h2=>by
    have:2 ^ (64 * (max k l + A' + 1))=2 ^ (64 * (max k l + A')) * 18446744073709551616:=by rw [show 64 * (max k l + A' + 1)=64 * (max k l + A') + 64 by omega,Nat.pow_add]
    omega
  obtain ⟨u,hu⟩:∃ u:Int,sg g m=u:=⟨_,rfl⟩
  obtain ⟨t,ht⟩:∃ t:Int,sg g' m'=t:=⟨_,rfl⟩
  rw [hu] at WX a1 z1 ⊢
  rw [ht] at WY a2 z2 ⊢
  have bu:∀ n,n≤64 * A'→(u * 2 ^ n).natAbs < 2 ^ (64 * (max k l + A')):=fun n hn=>by rw [Int.natAbs_mul,a1,Int.natAbs_pow,show (2:Int).natAbs=2 from rfl];exact bpow m n bm hn
  have bt:∀ n,n≤64 * A'→(t * 2 ^ n).natAbs < 2 ^ (64 * (max k l + A')):=fun n hn=>by rw [Int.natAbs_mul,a2,Int.natAbs_pow,show (2:Int).natAbs=2 from rfl];exact bpow m' n bm' hn
  have SG:Hid (∀ w b v,IntAt w b v→Calls Tryd.prog 44 #[pt b] w fun e w'=>e=.returned (.int .i64 (sgnI v))∧w=w'):=Lib.hid (fun w b v h=>isign_c h)
  have AD:Hid (∀ w b c d v y,Sm (v.natAbs:Int)→Sm (y.natAbs:Int)→IntAt w b d→IntAt w b v→IntAt w c y→Calls Tryd.prog 46 #[pt b,pt b,pt c] w (GPost b (v + y) w)):=Lib.hid (fun w b c d v y h1 h2 h3 h4 h5=>iadd_c h3 h4 h5 h1 h2)
  have MD:Hid (∀ w b v X,v.natAbs < 2 ^ (64 * (max k l + A' + 1))→-26000≤X + X∧X + X≤26000→IntAt w b v→Calls Tryd.prog 45 #[pt b,.int .i64 X] w (MadePost (max k l + A' + 1) v X w)):=Lib.hid (fun w b v X h1 h2 h3=>ymade_c h3 h1 (by omega) (by omega) (by omega))
  have wx:wrap64 (x + x')=x + x':=by unfold wrap64;omega
  have wd1:wrap64 (x - x')=x - x':=by clear wx;unfold wrap64;omega
  have wd2:wrap64 (x' - x)=x' - x:=by clear wx wd1;unfold wrap64;omega
  have sU:Sm (u.natAbs:Int):=by rw [a1];exact sm1
  have sT:Sm (t.natAbs:Int):=by rw [a2];exact sm2
  obtain ⟨A,c,rfl,_⟩:=h
  obtain ⟨B,c',rfl,_⟩:=h'
  clear r r'
  obtain ⟨n,hn⟩:∃ n,(lbs m).length=n:=⟨_,rfl⟩
  obtain ⟨n',hn'⟩:∃ n,(lbs m').length=n:=⟨_,rfl⟩
  rw [hn] at BC WX ⊢
  rw [hn'] at BC WY ⊢
  clear hn hn'
  have Y0:=Lib.hid (yx_new W #[.bool g,.slice A n c,.int .i64 x] #[.bool g',.slice B n' c',.int .i64 x'])
  by_cases c0:u=0 ∨ t=0
  · have eU:addU u x t x'=u + t:=if_pos c0
    have eX:addX u x t x'=x + x':=if_pos c0
    rw [eU,eX]
    have bs:(u + t).natAbs < 2 ^ (64 * (max k l + A' + 1)):=by have h1:=bu 0 (by omega);have h2:=bt 0 (by omega);rw [Int.pow_zero,Int.mul_one] at h1 h2;exact Nat.lt_of_le_of_lt (Int.natAbs_add_le _ _) (bsum _ _ h1 h2)
    have MX:Hid (∀ w b,IntAt w b (u + t)→Calls Tryd.prog 45 #[pt b,.int .i64 (x + x')] w (MadePost (max k l + A' + 1) (u + t) (x + x') w)):=Lib.hid (fun w b h=>MD.out w b _ _ bs (by rcases c0 with e|e;(have:=z1 e;omega);(have:=z2 e;omega)) h)
    have wx2:IntKind.i64.wrap (x + x')=x + x':=by clear wx wd1 wd2;rw [IntKind.wrap_i64];omega
    have SU:=Lib.hid sU
    have ST:=Lib.hid sT
    obtain ⟨X,hX⟩:∃ X,x + x'=X:=⟨_,rfl⟩
    replace wx:=wx.trans hX
    replace wx2:=wx2.trans hX
    rw [hX] at MX ⊢
    have sc:(sgnI u == 0)=true ∨ ((sgnI u == 0)=false∧(sgnI t == 0)=true):=sgn_or c0
    clear c0 eU eX bs bu bt bpow bsum bm bm' hk hA he he' a1 a2 z1 z2 sm1 sm2 sU sT wd1 wd2 hu ht hX MD
    rcases sc with s0|⟨s0,s1⟩
    all_goals
      have d0:=kb_cell Y0.out.k0 (i:=0) rfl;have d1:=kb_cell Y0.out.k0 (i:=1) rfl;have d2:=kb_cell Y0.out.k0 (i:=2) rfl;have e0:=kb_cell Y0.out.k1 (i:=0) rfl;have e1:=kb_cell Y0.out.k1 (i:=1) rfl;have e2:=kb_cell Y0.out.k1 (i:=2) rfl
      go_enter Tryd.func29,Tryd.ntmps29
      go_upto_region 3 with (go_at_call 42;(with_reducible refine (BC.out _ Y0.out.b).mono ?_);rintro e w1 ⟨rfl,hb⟩;have Y1:=Lib.hid (Y0.out.then hb);clear hb)
      clear d0 d1 d2 e0 e1 e2
      have hS:w1.drew.cell? ⟨W.heap.size,0,none⟩=some (.bool g)∧w1.drew.cell? ⟨W.heap.size,1,none⟩=some (.slice A n c)∧w1.drew.cell? ⟨W.heap.size,2,none⟩=some (.int .i64 x)∧w1.drew.cell? ⟨W.heap.size + 1,0,none⟩=some (.bool g')∧w1.drew.cell? ⟨W.heap.size + 1,1,none⟩=some (.slice B n' c')∧w1.drew.cell? ⟨W.heap.size + 1,2,none⟩=some (.int .i64 x'):=⟨kb_cell Y1.out.drew.k0 (i:=0) rfl,kb_cell Y1.out.drew.k0 (i:=1) rfl,kb_cell Y1.out.drew.k0 (i:=2) rfl,kb_cell Y1.out.drew.k1 (i:=0) rfl,kb_cell Y1.out.drew.k1 (i:=1) rfl,kb_cell Y1.out.drew.k1 (i:=2) rfl⟩
      refine wp_region_G (g:=3) (S:=fun w'=>w'.cell? ⟨W.heap.size,0,none⟩=some (.bool g)∧w'.cell? ⟨W.heap.size,1,none⟩=some (.slice A n c)∧w'.cell? ⟨W.heap.size,2,none⟩=some (.int .i64 x)∧w'.cell? ⟨W.heap.size + 1,0,none⟩=some (.bool g')∧w'.cell? ⟨W.heap.size + 1,1,none⟩=some (.slice B n' c')∧w'.cell? ⟨W.heap.size + 1,2,none⟩=some (.int .i64 x')) (by kernel_rfl) ?_
      have Y2:=Lib.hid Y1.out.drew
      obtain ⟨w2,hw2⟩:∃ w,w1.drew=w:=⟨_,rfl⟩
      rw [hw2] at hS Y2
      rw [hw2]
      clear hw2
      (refine wpG_ldC (i:=0) [1,3] (v:=?_) rfl rfl (by kernel_rfl) (by kernel_rfl) (by kernel_rfl) (by kernel_rfl) (fun _ _ _ h=>h) (Or.inl ⟨by rfl,?_⟩) hS ?_;rotate_left;focus (intro w hSw;(try dsimp only at hSw);go_simp;first|done|with_reducible rfl|exact rfl));(try simp only [Act.put,zA,zB,zC,zD,zE,zF])
      (refine wpG_ld (i:=2) 3 (v:=?_) rfl rfl (by kernel_rfl) (by kernel_rfl) (by kernel_rfl) (by kernel_rfl) (fun _ _ _ h=>h) (Or.inl ⟨by rfl,?_⟩) hS ?_;rotate_left;focus (intro w hSw;(try dsimp only at hSw);go_simp;first|done|with_reducible rfl|exact rfl));(try simp only [Act.put,zA,zB,zC,zD,zE,zF])
      refine wpG_one (i:=1) (by kernel_rfl) rfl (fun K hK=>?_);have HK:=Lib.hid hK;clear hK
      go_simp
      (with_reducible refine (WX.out _ Y2.out.b).mono ?_)
      rintro e w3 ⟨b,rfl,hbs,hI,hb⟩
      have Y3:=Lib.hid (Y2.out.then hb)
      have IX:=Lib.hid hI
      have NB:=Lib.hid (show W.heap.size + 1 + 1 < b by have:=kb_lt Y2.out.k2;omega)
      refine HK.out _ _ (Or.inr ⟨kb_cell Y3.out.k0 (i:=0) rfl,kb_cell Y3.out.k0 (i:=1) rfl,kb_cell Y3.out.k0 (i:=2) rfl,kb_cell Y3.out.k1 (i:=0) rfl,kb_cell Y3.out.k1 (i:=1) rfl,kb_cell Y3.out.k1 (i:=2) rfl⟩) ?_
      clear hb hbs hI hS HK K
      (try simp only [Act.put,zA,zB,zC,zD,zE,zF])
      refine wpG_one (i:=3) (by kernel_rfl) rfl (fun K hK=>?_);have HK:=Lib.hid hK;clear hK
      go_simp
      (with_reducible refine (WY.out _ Y3.out.b).mono ?_)
      rintro e w4 ⟨b',rfl,hbs,hI,hb⟩
      have Y4:=Lib.hid (Y3.out.then hb)
      have IY:=Lib.hid hI
      have NE:=Lib.hid (show b < b' by have:=IX.out.lt;omega)
      have IX:=Lib.hid (IX.out.below hb)
      refine HK.out _ _ (Or.inl (by kernel_rfl)) ?_
      clear hb hbs hI HK K
      (try simp only [Act.put,zA,zB,zC,zD,zE,zF])
      (refine wpG_take (i:=4) (v:=?_) rfl rfl (by kernel_rfl) (by kernel_rfl) (by kernel_rfl) (fun _ _ _ h=>h) (Or.inl ⟨by rfl,fun w=>?_⟩) (Or.inl (by kernel_rfl)) ?_;rotate_left;focus (go_simp;first|done|with_reducible rfl|exact rfl));(try simp only [Act.put,zA,zB,zC,zD,zE,zF]);(refine wpG_take (i:=5) (v:=?_) rfl rfl (by kernel_rfl) (by kernel_rfl) (by kernel_rfl) (fun _ _ _ h=>h) (Or.inl ⟨by rfl,fun w=>?_⟩) (Or.inl (by kernel_rfl)) ?_;rotate_left;focus (go_simp;first|done|with_reducible rfl|exact rfl));(try simp only [Act.put,zA,zB,zC,zD,zE,zF])
      refine wpG_done (by kernel_rfl) ?_ _
      have d0:=kb_cell Y4.out.k0 (i:=0) rfl;have d1:=kb_cell Y4.out.k0 (i:=1) rfl;have d2:=kb_cell Y4.out.k0 (i:=2) rfl;have e0:=kb_cell Y4.out.k1 (i:=0) rfl;have e1:=kb_cell Y4.out.k1 (i:=1) rfl;have e2:=kb_cell Y4.out.k1 (i:=2) rfl
      go_upto_region 5 with (go_at_call 44;(with_reducible (first|refine (SG.out _ _ _ IX.out).mono ?_|refine (SG.out _ _ _ IY.out).mono ?_));rintro e w' ⟨rfl,rfl⟩)
      clear d0 d1 d2 e0 e1 e2
      have hS:w4.drew.cell? ⟨W.heap.size,0,none⟩=some (.bool g)∧w4.drew.cell? ⟨W.heap.size,1,none⟩=some (.slice A n c)∧w4.drew.cell? ⟨W.heap.size,2,none⟩=some (.int .i64 x)∧w4.drew.cell? ⟨W.heap.size + 1,0,none⟩=some (.bool g')∧w4.drew.cell? ⟨W.heap.size + 1,1,none⟩=some (.slice B n' c')∧w4.drew.cell? ⟨W.heap.size + 1,2,none⟩=some (.int .i64 x'):=⟨kb_cell Y4.out.drew.k0 (i:=0) rfl,kb_cell Y4.out.drew.k0 (i:=1) rfl,kb_cell Y4.out.drew.k0 (i:=2) rfl,kb_cell Y4.out.drew.k1 (i:=0) rfl,kb_cell Y4.out.drew.k1 (i:=1) rfl,kb_cell Y4.out.drew.k1 (i:=2) rfl⟩
      refine wp_region_G (g:=9) (S:=fun w'=>w'.cell? ⟨W.heap.size,0,none⟩=some (.bool g)∧w'.cell? ⟨W.heap.size,1,none⟩=some (.slice A n c)∧w'.cell? ⟨W.heap.size,2,none⟩=some (.int .i64 x)∧w'.cell? ⟨W.heap.size + 1,0,none⟩=some (.bool g')∧w'.cell? ⟨W.heap.size + 1,1,none⟩=some (.slice B n' c')∧w'.cell? ⟨W.heap.size + 1,2,none⟩=some (.int .i64 x')) (by kernel_rfl) ?_
      have Y5:=Lib.hid Y4.out.drew
      have I5:=Lib.hid IX.out.drew
      have J5:=Lib.hid IY.out.drew
      obtain ⟨w5,hw5⟩:∃ w,w4.drew=w:=⟨_,rfl⟩
      rw [hw5] at hS Y5 I5 J5
      rw [hw5]
      clear hw5
      (refine wpG_take (i:=0) (v:=?_) rfl rfl (by kernel_rfl) (by kernel_rfl) (by kernel_rfl) (fun _ _ _ h=>h) (Or.inl ⟨by rfl,fun w=>?_⟩) (Or.inr hS) ?_;rotate_left;focus (go_simp;first|done|with_reducible rfl|exact rfl));(try simp only [Act.put,zA,zB,zC,zD,zE,zF]);(refine wpG_take (i:=1) (v:=?_) rfl rfl (by kernel_rfl) (by kernel_rfl) (by kernel_rfl) (fun _ _ _ h=>h) (Or.inl ⟨by rfl,fun w=>?_⟩) (Or.inr hS) ?_;rotate_left;focus (go_simp;first|done|with_reducible rfl|exact rfl));(try simp only [Act.put,zA,zB,zC,zD,zE,zF]);(refine wpG_take (i:=2) (v:=?_) rfl rfl (by kernel_rfl) (by kernel_rfl) (by kernel_rfl) (fun _ _ _ h=>h) (Or.inl ⟨by rfl,fun w=>?_⟩) (Or.inr hS) ?_;rotate_left;focus (go_simp;first|done|with_reducible rfl|exact rfl));(try simp only [Act.put,zA,zB,zC,zD,zE,zF])
      (refine wpG_take (i:=4) (v:=?_) rfl rfl (by kernel_rfl) (by kernel_rfl) (by kernel_rfl) (fun _ _ _ h=>h) (Or.inl ⟨by rfl,fun w=>?_⟩) (Or.inr hS) ?_;rotate_left;focus (go_simp;first|done|with_reducible rfl|exact rfl));(try simp only [Act.put,zA,zB,zC,zD,zE,zF])
      (refine wpG_ldC (i:=5) [8,9] (v:=?_) rfl rfl (by kernel_rfl) (by kernel_rfl) (by kernel_rfl) (by kernel_rfl) (fun _ _ _ h=>h) (Or.inl ⟨by rfl,?_⟩) hS ?_;rotate_left;focus (intro w hSw;(try dsimp only at hSw);go_simp;first|done|with_reducible rfl|exact rfl));(try simp only [Act.put,zA,zB,zC,zD,zE,zF])
      (refine wpG_take (i:=6) (v:=?_) rfl rfl (by kernel_rfl) (by kernel_rfl) (by kernel_rfl) (fun _ _ _ h=>h) (Or.inl ⟨by rfl,fun w=>?_⟩) (Or.inr hS) ?_;rotate_left;focus (go_simp;first|done|with_reducible rfl|exact rfl));(try simp only [Act.put,zA,zB,zC,zD,zE,zF])
      (refine wpG_ldC (i:=7) [8,9] (v:=?_) rfl rfl (by kernel_rfl) (by kernel_rfl) (by kernel_rfl) (by kernel_rfl) (fun _ _ _ h=>h) (Or.inl ⟨by rfl,?_⟩) hS ?_;rotate_left;focus (intro w hSw;(try dsimp only at hSw);go_simp;first|done|with_reducible rfl|exact rfl));(try simp only [Act.put,zA,zB,zC,zD,zE,zF])
      (refine wpG_take (i:=8) (v:=?_) rfl rfl (by kernel_rfl) (by kernel_rfl) (by kernel_rfl) (fun _ _ _ h=>h) (Or.inl ⟨by rfl,fun w=>?_⟩) (Or.inr hS) ?_;rotate_left;focus (go_simp;first|done|with_reducible rfl|exact rfl));(try simp only [Act.put,zA,zB,zC,zD,zE,zF])
      refine wpG_one (i:=3) (by kernel_rfl) rfl (fun K hK=>?_);have HK:=Lib.hid hK;clear hK
      go_simp
      (with_reducible refine (AD.out _ _ _ _ _ _ SU.out ST.out I5.out I5.out J5.out).mono ?_)
      rintro e w6 ⟨rfl,hI,hz⟩
      have I6:=Lib.hid hI
      have Y6:=Lib.hid (Y5.out.bz hz NB.out)
      refine HK.out _ _ (Or.inr ⟨kb_cell Y6.out.k0 (i:=0) rfl,kb_cell Y6.out.k0 (i:=1) rfl,kb_cell Y6.out.k0 (i:=2) rfl,kb_cell Y6.out.k1 (i:=0) rfl,kb_cell Y6.out.k1 (i:=1) rfl,kb_cell Y6.out.k1 (i:=2) rfl⟩) ?_
      clear hI hz HK K hS
      (try simp only [Act.put,zA,zB,zC,zD,zE,zF])
      refine wpG_one (i:=9) (by kernel_rfl) rfl (fun K hK=>?_);have HK:=Lib.hid hK;clear hK
      go_simp
      (with_reducible refine (MX.out _ _ I6.out).mono ?_)
      rintro e w8 ⟨dd,G,M,XX,rfl,hD,hM,hb⟩
      obtain ⟨AA,cc,rfl,hlc,hC⟩:=hD
      have D8:=Lib.hid (show Dy w8 (.agg #[.bool G,.slice AA (lbs M).length cc,.int .i64 XX]) G M XX from ⟨AA,cc,rfl,hlc,hC⟩)
      have IM:=Lib.hid hM
      have Y8:=Lib.hid (Y6.out.then hb)
      obtain ⟨N,hN⟩:∃ N,(lbs M).length=N:=⟨_,rfl⟩
      rw [hN] at D8
      simp only [hN]
      clear hlc hC hM hb hN
      refine HK.out _ _ (Or.inl (by kernel_rfl)) ?_
      clear HK K
      (try simp only [Act.put,zA,zB,zC,zD,zE,zF])
      have f0:=kb_frozen Y8.out.k2 0
      have f1:=kb_frozen Y8.out.k2 1
      have f2:=kb_frozen Y8.out.k2 2
      have g0:=kb_cell Y8.out.k2 (i:=0) rfl
      have g1:=kb_cell Y8.out.k2 (i:=1) rfl
      have g2:=kb_cell Y8.out.k2 (i:=2) rfl
      (refine wpG_take (i:=10) (v:=?_) rfl rfl (by kernel_rfl) (by kernel_rfl) (by kernel_rfl) (fun _ _ _ h=>h) (Or.inl ⟨by rfl,fun w=>?_⟩) (Or.inl (by kernel_rfl)) ?_;rotate_left;focus (go_simp;first|done|with_reducible rfl|exact rfl));(try simp only [Act.put,zA,zB,zC,zD,zE,zF]);(refine wpG_take (i:=11) (v:=?_) rfl rfl (by kernel_rfl) (by kernel_rfl) (by kernel_rfl) (fun _ _ _ h=>h) (Or.inl ⟨by rfl,fun w=>?_⟩) (Or.inl (by kernel_rfl)) ?_;rotate_left;focus (go_simp;first|done|with_reducible rfl|exact rfl));(try simp only [Act.put,zA,zB,zC,zD,zE,zF])
      refine wpG_one (i:=12) (by kernel_rfl) rfl (fun K hK=>?_);have HK:=Lib.hid hK;clear hK;go_simp;refine HK.out _ _ (Or.inl (by kernel_rfl)) ?_;clear HK K;(try simp only [Act.put,zA,zB,zC,zD,zE,zF])
      refine wpG_one (i:=13) (by kernel_rfl) rfl (fun K hK=>?_);have HK:=Lib.hid hK;clear hK;go_simp;refine HK.out _ _ (Or.inl (by kernel_rfl)) ?_;clear HK K;(try simp only [Act.put,zA,zB,zC,zD,zE,zF])
      refine wpG_done (by kernel_rfl) ?_ _
      go_wp2
      have y2:=set3_at (a':=.bool G) (b':=.slice AA N cc) (c':=.int .i64 XX) Y8.out.k2
      have z0:=kb_cell (show (((w8.setCell ⟨W.heap.size + 1 + 1,0,none⟩ (.bool G)).setCell ⟨W.heap.size + 1 + 1,1,none⟩ (.slice AA N cc)).setCell ⟨W.heap.size + 1 + 1,2,none⟩ (.int .i64 XX)).heap[W.heap.size + 1 + 1]?=_ from y2) (i:=0) rfl
      have z1:=kb_cell (show (((w8.setCell ⟨W.heap.size + 1 + 1,0,none⟩ (.bool G)).setCell ⟨W.heap.size + 1 + 1,1,none⟩ (.slice AA N cc)).setCell ⟨W.heap.size + 1 + 1,2,none⟩ (.int .i64 XX)).heap[W.heap.size + 1 + 1]?=_ from y2) (i:=1) rfl
      have z2:=kb_cell (show (((w8.setCell ⟨W.heap.size + 1 + 1,0,none⟩ (.bool G)).setCell ⟨W.heap.size + 1 + 1,1,none⟩ (.slice AA N cc)).setCell ⟨W.heap.size + 1 + 1,2,none⟩ (.int .i64 XX)).heap[W.heap.size + 1 + 1]?=_ from y2) (i:=2) rfl
      refine bodyPost_ret (v:=.tuple #[.agg #[.bool G,.slice AA N cc,.int .i64 XX],.int .i64 0]) (by simp [results,Tryd.results29,go_sem,z0,z1,z2]) rfl ?_
      have hW:W.heap.size≤W.heap.size + 1 + 1:=by omega
      exact ⟨_,G,M,XX,rfl,D8.out.set3 Y8.out.k2 (fun z h=>by cases h),IM.out,bl_set (bl_set (bl_set Y8.out.b _ hW) _ hW) _ hW⟩
  · have n1:u ≠ 0:=fun e=>c0 (Or.inl e)
    have n2:t ≠ 0:=fun e=>c0 (Or.inr e)
    have s0:(sgnI u == 0)=false:=by rw [beq_eq_false_iff_ne];unfold sgnI;(repeat' split) <;> omega
    have s1:(sgnI t == 0)=false:=by rw [beq_eq_false_iff_ne];unfold sgnI;(repeat' split) <;> omega
    have eU:addU u x t x'=u * 2 ^ (x - min x x').toNat + t * 2 ^ (x' - min x x').toNat:=if_neg c0
    have eX:addX u x t x'=min x x':=if_neg c0
    rw [eU,eX]
    by_cases c1:x < x'
    · have em:min x x'=x:=by omega
      rw [em,show (x - x).toNat=0 by omega,Int.pow_zero,Int.mul_one,Int.add_comm]
      obtain ⟨E,hE⟩:∃ E,(x' - x).toNat=E:=⟨_,rfl⟩
      rw [hE]
      have hE2:E≤64 * A':=by omega
      have bs:(t * 2 ^ E + u).natAbs < 2 ^ (64 * (max k l + A' + 1)):=by have h1:=bt E hE2;have h2:=bu 0 (by omega);rw [Int.pow_zero,Int.mul_one] at h2;exact Nat.lt_of_le_of_lt (Int.natAbs_add_le _ _) (bsum _ _ h1 h2)
      have sL:Sm (((t * 2 ^ E).natAbs:Nat):Int):=sm_pw (bt E hE2) (by omega)
      have LS:Hid (∀ w b,IntAt w b t→Calls Tryd.prog 47 #[pt b,pt b,.int .u64 (E:Int)] w (GPost b (t * 2 ^ E) w)):=Lib.hid (fun w b h=>lsh_c h h E (by omega) sT)
      have MX:Hid (∀ w b,IntAt w b (t * 2 ^ E + u)→Calls Tryd.prog 45 #[pt b,.int .i64 x] w (MadePost (max k l + A' + 1) (t * 2 ^ E + u) x w)):=Lib.hid (fun w b h=>MD.out w b _ _ bs (by omega) h)
      have l1:decide (x < x')=true:=decide_eq_true c1
      have l2:decide (16385 < x' - x)=false:=decide_eq_false (by omega)
      have l3:IntKind.u64.wrap (x' - x)=(E:Int):=by rw [IntKind.wrap_u64];omega
      have SL:=Lib.hid sL
      have SQ:=Lib.hid sU
      obtain ⟨V,hV⟩:∃ V:Int,t * 2 ^ E=V:=⟨_,rfl⟩
      rw [hV] at SL LS MX ⊢
      clear c0 c1 eU eX em bs bu bt bpow bsum bm bm' hk hA he he' a1 a2 z1 z2 sm1 sm2 sU sT wx hu ht hE hE2 sL n1 n2 MD hV
      have d0:=kb_cell Y0.out.k0 (i:=0) rfl;have d1:=kb_cell Y0.out.k0 (i:=1) rfl;have d2:=kb_cell Y0.out.k0 (i:=2) rfl;have e0:=kb_cell Y0.out.k1 (i:=0) rfl;have e1:=kb_cell Y0.out.k1 (i:=1) rfl;have e2:=kb_cell Y0.out.k1 (i:=2) rfl
      go_enter Tryd.func29,Tryd.ntmps29
      go_upto_region 3 with (go_at_call 42;(with_reducible refine (BC.out _ Y0.out.b).mono ?_);rintro e w1 ⟨rfl,hb⟩;have Y1:=Lib.hid (Y0.out.then hb);clear hb)
      clear d0 d1 d2 e0 e1 e2
      have hS:w1.drew.cell? ⟨W.heap.size,0,none⟩=some (.bool g)∧w1.drew.cell? ⟨W.heap.size,1,none⟩=some (.slice A n c)∧w1.drew.cell? ⟨W.heap.size,2,none⟩=some (.int .i64 x)∧w1.drew.cell? ⟨W.heap.size + 1,0,none⟩=some (.bool g')∧w1.drew.cell? ⟨W.heap.size + 1,1,none⟩=some (.slice B n' c')∧w1.drew.cell? ⟨W.heap.size + 1,2,none⟩=some (.int .i64 x'):=⟨kb_cell Y1.out.drew.k0 (i:=0) rfl,kb_cell Y1.out.drew.k0 (i:=1) rfl,kb_cell Y1.out.drew.k0 (i:=2) rfl,kb_cell Y1.out.drew.k1 (i:=0) rfl,kb_cell Y1.out.drew.k1 (i:=1) rfl,kb_cell Y1.out.drew.k1 (i:=2) rfl⟩
      refine wp_region_G (g:=3) (S:=fun w'=>w'.cell? ⟨W.heap.size,0,none⟩=some (.bool g)∧w'.cell? ⟨W.heap.size,1,none⟩=some (.slice A n c)∧w'.cell? ⟨W.heap.size,2,none⟩=some (.int .i64 x)∧w'.cell? ⟨W.heap.size + 1,0,none⟩=some (.bool g')∧w'.cell? ⟨W.heap.size + 1,1,none⟩=some (.slice B n' c')∧w'.cell? ⟨W.heap.size + 1,2,none⟩=some (.int .i64 x')) (by kernel_rfl) ?_
      have Y2:=Lib.hid Y1.out.drew
      obtain ⟨w2,hw2⟩:∃ w,w1.drew=w:=⟨_,rfl⟩
      rw [hw2] at hS Y2
      rw [hw2]
      clear hw2
      (refine wpG_ldC (i:=0) [1,3] (v:=?_) rfl rfl (by kernel_rfl) (by kernel_rfl) (by kernel_rfl) (by kernel_rfl) (fun _ _ _ h=>h) (Or.inl ⟨by rfl,?_⟩) hS ?_;rotate_left;focus (intro w hSw;(try dsimp only at hSw);go_simp;first|done|with_reducible rfl|exact rfl));(try simp only [Act.put,zA,zB,zC,zD,zE,zF])
      (refine wpG_ld (i:=2) 3 (v:=?_) rfl rfl (by kernel_rfl) (by kernel_rfl) (by kernel_rfl) (by kernel_rfl) (fun _ _ _ h=>h) (Or.inl ⟨by rfl,?_⟩) hS ?_;rotate_left;focus (intro w hSw;(try dsimp only at hSw);go_simp;first|done|with_reducible rfl|exact rfl));(try simp only [Act.put,zA,zB,zC,zD,zE,zF])
      refine wpG_one (i:=1) (by kernel_rfl) rfl (fun K hK=>?_);have HK:=Lib.hid hK;clear hK
      go_simp
      (with_reducible refine (WX.out _ Y2.out.b).mono ?_)
      rintro e w3 ⟨b,rfl,hbs,hI,hb⟩
      have Y3:=Lib.hid (Y2.out.then hb)
      have IX:=Lib.hid hI
      have NB:=Lib.hid (show W.heap.size + 1 + 1 < b by have:=kb_lt Y2.out.k2;omega)
      refine HK.out _ _ (Or.inr ⟨kb_cell Y3.out.k0 (i:=0) rfl,kb_cell Y3.out.k0 (i:=1) rfl,kb_cell Y3.out.k0 (i:=2) rfl,kb_cell Y3.out.k1 (i:=0) rfl,kb_cell Y3.out.k1 (i:=1) rfl,kb_cell Y3.out.k1 (i:=2) rfl⟩) ?_
      clear hb hbs hI hS HK K
      (try simp only [Act.put,zA,zB,zC,zD,zE,zF])
      refine wpG_one (i:=3) (by kernel_rfl) rfl (fun K hK=>?_);have HK:=Lib.hid hK;clear hK
      go_simp
      (with_reducible refine (WY.out _ Y3.out.b).mono ?_)
      rintro e w4 ⟨b',rfl,hbs,hI,hb⟩
      have Y4:=Lib.hid (Y3.out.then hb)
      have IY:=Lib.hid hI
      have NE:=Lib.hid (show b < b' by have:=IX.out.lt;omega)
      have IX:=Lib.hid (IX.out.below hb)
      refine HK.out _ _ (Or.inl (by kernel_rfl)) ?_
      clear hb hbs hI HK K
      (try simp only [Act.put,zA,zB,zC,zD,zE,zF])
      (refine wpG_take (i:=4) (v:=?_) rfl rfl (by kernel_rfl) (by kernel_rfl) (by kernel_rfl) (fun _ _ _ h=>h) (Or.inl ⟨by rfl,fun w=>?_⟩) (Or.inl (by kernel_rfl)) ?_;rotate_left;focus (go_simp;first|done|with_reducible rfl|exact rfl));(try simp only [Act.put,zA,zB,zC,zD,zE,zF]);(refine wpG_take (i:=5) (v:=?_) rfl rfl (by kernel_rfl) (by kernel_rfl) (by kernel_rfl) (fun _ _ _ h=>h) (Or.inl ⟨by rfl,fun w=>?_⟩) (Or.inl (by kernel_rfl)) ?_;rotate_left;focus (go_simp;first|done|with_reducible rfl|exact rfl));(try simp only [Act.put,zA,zB,zC,zD,zE,zF])
      refine wpG_done (by kernel_rfl) ?_ _
      have d0:=kb_cell Y4.out.k0 (i:=0) rfl;have d1:=kb_cell Y4.out.k0 (i:=1) rfl;have d2:=kb_cell Y4.out.k0 (i:=2) rfl;have e0:=kb_cell Y4.out.k1 (i:=0) rfl;have e1:=kb_cell Y4.out.k1 (i:=1) rfl;have e2:=kb_cell Y4.out.k1 (i:=2) rfl
      have f0:=kb_frozen Y4.out.k0 0
      have f1:=kb_frozen Y4.out.k0 1
      have f2:=kb_frozen Y4.out.k0 2
      have h0:=kb_frozen Y4.out.k1 0
      have h1:=kb_frozen Y4.out.k1 1
      have h2:=kb_frozen Y4.out.k1 2
      go_upto_region 8 with (go_at_call 44;(with_reducible (first|refine (SG.out _ _ _ IX.out).mono ?_|refine (SG.out _ _ _ IY.out).mono ?_));rintro e w' ⟨rfl,rfl⟩)
      clear d0 d1 d2 e0 e1 e2
      clear f0 f1 f2 h0 h1 h2
      have Y5:=Lib.hid Y4.out.swap
      have IX:=Lib.hid ((IX.out.set3 (a':=.bool g') (b'':=.slice B n' c') (c':=.int .i64 x') Y4.out.k0).set3 (a':=.bool g) (b'':=.slice A n c) (c':=.int .i64 x) ((set3_far (by omega)).trans Y4.out.k1))
      have IY:=Lib.hid ((IY.out.set3 (a':=.bool g') (b'':=.slice B n' c') (c':=.int .i64 x') Y4.out.k0).set3 (a':=.bool g) (b'':=.slice A n c) (c':=.int .i64 x) ((set3_far (by omega)).trans Y4.out.k1))
      obtain ⟨w5,hw5⟩:∃ w,set3 (set3 w4 W.heap.size (.bool g') (.slice B n' c') (.int .i64 x')) (W.heap.size + 1) (.bool g) (.slice A n c) (.int .i64 x)=w:=⟨_,rfl⟩
      rw [hw5] at Y5 IX IY
      unfold set3 at hw5
      simp only [hw5]
      clear hw5
      have d0:=kb_cell Y5.out.k0 (i:=0) rfl;have d1:=kb_cell Y5.out.k0 (i:=1) rfl;have d2:=kb_cell Y5.out.k0 (i:=2) rfl;have e0:=kb_cell Y5.out.k1 (i:=0) rfl;have e1:=kb_cell Y5.out.k1 (i:=1) rfl;have e2:=kb_cell Y5.out.k1 (i:=2) rfl
      go_upto_region 11 with (fail)
      clear d0 d1 d2 e0 e1 e2
      have hS:w5.drew.cell? ⟨W.heap.size,0,none⟩=some (.bool g')∧w5.drew.cell? ⟨W.heap.size,1,none⟩=some (.slice B n' c')∧w5.drew.cell? ⟨W.heap.size,2,none⟩=some (.int .i64 x')∧w5.drew.cell? ⟨W.heap.size + 1,0,none⟩=some (.bool g)∧w5.drew.cell? ⟨W.heap.size + 1,1,none⟩=some (.slice A n c)∧w5.drew.cell? ⟨W.heap.size + 1,2,none⟩=some (.int .i64 x):=⟨kb_cell Y5.out.drew.k0 (i:=0) rfl,kb_cell Y5.out.drew.k0 (i:=1) rfl,kb_cell Y5.out.drew.k0 (i:=2) rfl,kb_cell Y5.out.drew.k1 (i:=0) rfl,kb_cell Y5.out.drew.k1 (i:=1) rfl,kb_cell Y5.out.drew.k1 (i:=2) rfl⟩
      refine wp_region_G (g:=10) (S:=fun w'=>w'.cell? ⟨W.heap.size,0,none⟩=some (.bool g')∧w'.cell? ⟨W.heap.size,1,none⟩=some (.slice B n' c')∧w'.cell? ⟨W.heap.size,2,none⟩=some (.int .i64 x')∧w'.cell? ⟨W.heap.size + 1,0,none⟩=some (.bool g)∧w'.cell? ⟨W.heap.size + 1,1,none⟩=some (.slice A n c)∧w'.cell? ⟨W.heap.size + 1,2,none⟩=some (.int .i64 x)) (by kernel_rfl) ?_
      have Y6:=Lib.hid Y5.out.drew
      have IX:=Lib.hid IX.out.drew
      have IY:=Lib.hid IY.out.drew
      obtain ⟨w6,hw6⟩:∃ w,w5.drew=w:=⟨_,rfl⟩
      rw [hw6] at hS Y6 IX IY
      rw [hw6]
      clear hw6
      (refine wpG_take (i:=0) (v:=?_) rfl rfl (by kernel_rfl) (by kernel_rfl) (by kernel_rfl) (fun _ _ _ h=>h) (Or.inl ⟨by rfl,fun w=>?_⟩) (Or.inr hS) ?_;rotate_left;focus (go_simp;first|done|with_reducible rfl|exact rfl));(try simp only [Act.put,zA,zB,zC,zD,zE,zF]);(refine wpG_take (i:=1) (v:=?_) rfl rfl (by kernel_rfl) (by kernel_rfl) (by kernel_rfl) (fun _ _ _ h=>h) (Or.inl ⟨by rfl,fun w=>?_⟩) (Or.inr hS) ?_;rotate_left;focus (go_simp;first|done|with_reducible rfl|exact rfl));(try simp only [Act.put,zA,zB,zC,zD,zE,zF]);(refine wpG_take (i:=2) (v:=?_) rfl rfl (by kernel_rfl) (by kernel_rfl) (by kernel_rfl) (fun _ _ _ h=>h) (Or.inl ⟨by rfl,fun w=>?_⟩) (Or.inr hS) ?_;rotate_left;focus (go_simp;first|done|with_reducible rfl|exact rfl));(try simp only [Act.put,zA,zB,zC,zD,zE,zF]);(refine wpG_take (i:=3) (v:=?_) rfl rfl (by kernel_rfl) (by kernel_rfl) (by kernel_rfl) (fun _ _ _ h=>h) (Or.inl ⟨by rfl,fun w=>?_⟩) (Or.inr hS) ?_;rotate_left;focus (go_simp;first|done|with_reducible rfl|exact rfl));(try simp only [Act.put,zA,zB,zC,zD,zE,zF]);(refine wpG_take (i:=4) (v:=?_) rfl rfl (by kernel_rfl) (by kernel_rfl) (by kernel_rfl) (fun _ _ _ h=>h) (Or.inl ⟨by rfl,fun w=>?_⟩) (Or.inr hS) ?_;rotate_left;focus (go_simp;first|done|with_reducible rfl|exact rfl));(try simp only [Act.put,zA,zB,zC,zD,zE,zF])
      (refine wpG_take (i:=6) (v:=?_) rfl rfl (by kernel_rfl) (by kernel_rfl) (by kernel_rfl) (fun _ _ _ h=>h) (Or.inl ⟨by rfl,fun w=>?_⟩) (Or.inr hS) ?_;rotate_left;focus (go_simp;first|done|with_reducible rfl|exact rfl));(try simp only [Act.put,zA,zB,zC,zD,zE,zF])
      (refine wpG_take (i:=8) (v:=?_) rfl rfl (by kernel_rfl) (by kernel_rfl) (by kernel_rfl) (fun _ _ _ h=>h) (Or.inl ⟨by rfl,fun w=>?_⟩) (Or.inr hS) ?_;rotate_left;focus (go_simp;first|done|with_reducible rfl|exact rfl));(try simp only [Act.put,zA,zB,zC,zD,zE,zF])
      (refine wpG_ld (i:=9) 10 (v:=?_) rfl rfl (by kernel_rfl) (by kernel_rfl) (by kernel_rfl) (by kernel_rfl) (fun _ _ _ h=>h) (Or.inl ⟨by rfl,?_⟩) hS ?_;rotate_left;focus (intro w hSw;(try dsimp only at hSw);go_simp;first|done|with_reducible rfl|exact rfl));(try simp only [Act.put,zA,zB,zC,zD,zE,zF])
      refine wpG_one (i:=5) (by kernel_rfl) rfl (fun K hK=>?_);have HK:=Lib.hid hK;clear hK
      go_simp
      (with_reducible refine (LS.out _ _ IY.out).mono ?_)
      rintro e w7 ⟨rfl,hI,hz⟩
      have IX:=Lib.hid (IX.out.keep IY.out (Nat.ne_of_lt NE.out) hz)
      have IY:=Lib.hid hI
      have Y7:=Lib.hid (Y6.out.bz hz (Nat.lt_trans NB.out NE.out))
      refine HK.out _ _ (Or.inr ⟨kb_cell Y7.out.k0 (i:=0) rfl,kb_cell Y7.out.k0 (i:=1) rfl,kb_cell Y7.out.k0 (i:=2) rfl,kb_cell Y7.out.k1 (i:=0) rfl,kb_cell Y7.out.k1 (i:=1) rfl,kb_cell Y7.out.k1 (i:=2) rfl⟩) ?_
      clear hI hz HK K hS
      (try simp only [Act.put,zA,zB,zC,zD,zE,zF])
      refine wpG_one (i:=7) (by kernel_rfl) rfl (fun K hK=>?_);have HK:=Lib.hid hK;clear hK
      go_simp
      (with_reducible refine (AD.out _ _ _ _ _ _ SL.out SQ.out IY.out IY.out IX.out).mono ?_)
      rintro e w9 ⟨rfl,hI,hz⟩
      have IS:=Lib.hid hI
      have Y9:=Lib.hid (Y7.out.bz hz (Nat.lt_trans NB.out NE.out))
      refine HK.out _ _ (Or.inr ⟨kb_cell Y9.out.k0 (i:=0) rfl,kb_cell Y9.out.k0 (i:=1) rfl,kb_cell Y9.out.k0 (i:=2) rfl,kb_cell Y9.out.k1 (i:=0) rfl,kb_cell Y9.out.k1 (i:=1) rfl,kb_cell Y9.out.k1 (i:=2) rfl⟩) ?_
      clear hI hz HK K
      (try simp only [Act.put,zA,zB,zC,zD,zE,zF])
      refine wpG_one (i:=10) (by kernel_rfl) rfl (fun K hK=>?_);have HK:=Lib.hid hK;clear hK
      go_simp
      (with_reducible refine (MX.out _ _ IS.out).mono ?_)
      rintro e w8 ⟨dd,G,M,XX,rfl,hD,hM,hb⟩
      obtain ⟨AA,cc,rfl,hlc,hC⟩:=hD
      have D8:=Lib.hid (show Dy w8 (.agg #[.bool G,.slice AA (lbs M).length cc,.int .i64 XX]) G M XX from ⟨AA,cc,rfl,hlc,hC⟩)
      have IM:=Lib.hid hM
      have Y8:=Lib.hid (Y9.out.then hb)
      obtain ⟨N,hN⟩:∃ N,(lbs M).length=N:=⟨_,rfl⟩
      rw [hN] at D8
      simp only [hN]
      clear hlc hC hM hb hN
      refine HK.out _ _ (Or.inl (by kernel_rfl)) ?_
      clear HK K
      (try simp only [Act.put,zA,zB,zC,zD,zE,zF])
      have f0:=kb_frozen Y8.out.k2 0
      have f1:=kb_frozen Y8.out.k2 1
      have f2:=kb_frozen Y8.out.k2 2
      have g0:=kb_cell Y8.out.k2 (i:=0) rfl
      have g1:=kb_cell Y8.out.k2 (i:=1) rfl
      have g2:=kb_cell Y8.out.k2 (i:=2) rfl
      (refine wpG_take (i:=11) (v:=?_) rfl rfl (by kernel_rfl) (by kernel_rfl) (by kernel_rfl) (fun _ _ _ h=>h) (Or.inl ⟨by rfl,fun w=>?_⟩) (Or.inl (by kernel_rfl)) ?_;rotate_left;focus (go_simp;first|done|with_reducible rfl|exact rfl));(try simp only [Act.put,zA,zB,zC,zD,zE,zF]);(refine wpG_take (i:=12) (v:=?_) rfl rfl (by kernel_rfl) (by kernel_rfl) (by kernel_rfl) (fun _ _ _ h=>h) (Or.inl ⟨by rfl,fun w=>?_⟩) (Or.inl (by kernel_rfl)) ?_;rotate_left;focus (go_simp;first|done|with_reducible rfl|exact rfl));(try simp only [Act.put,zA,zB,zC,zD,zE,zF])
      refine wpG_one (i:=13) (by kernel_rfl) rfl (fun K hK=>?_);have HK:=Lib.hid hK;clear hK;go_simp;refine HK.out _ _ (Or.inl (by kernel_rfl)) ?_;clear HK K;(try simp only [Act.put,zA,zB,zC,zD,zE,zF])
      refine wpG_one (i:=14) (by kernel_rfl) rfl (fun K hK=>?_);have HK:=Lib.hid hK;clear hK;go_simp;refine HK.out _ _ (Or.inl (by kernel_rfl)) ?_;clear HK K;(try simp only [Act.put,zA,zB,zC,zD,zE,zF])
      refine wpG_done (by kernel_rfl) ?_ _
      go_wp2
      have y2:=set3_at (a':=.bool G) (b':=.slice AA N cc) (c':=.int .i64 XX) Y8.out.k2
      have z0:=kb_cell (show (((w8.setCell ⟨W.heap.size + 1 + 1,0,none⟩ (.bool G)).setCell ⟨W.heap.size + 1 + 1,1,none⟩ (.slice AA N cc)).setCell ⟨W.heap.size + 1 + 1,2,none⟩ (.int .i64 XX)).heap[W.heap.size + 1 + 1]?=_ from y2) (i:=0) rfl
      have z1:=kb_cell (show (((w8.setCell ⟨W.heap.size + 1 + 1,0,none⟩ (.bool G)).setCell ⟨W.heap.size + 1 + 1,1,none⟩ (.slice AA N cc)).setCell ⟨W.heap.size + 1 + 1,2,none⟩ (.int .i64 XX)).heap[W.heap.size + 1 + 1]?=_ from y2) (i:=1) rfl
      have z2:=kb_cell (show (((w8.setCell ⟨W.heap.size + 1 + 1,0,none⟩ (.bool G)).setCell ⟨W.heap.size + 1 + 1,1,none⟩ (.slice AA N cc)).setCell ⟨W.heap.size + 1 + 1,2,none⟩ (.int .i64 XX)).heap[W.heap.size + 1 + 1]?=_ from y2) (i:=2) rfl
      refine bodyPost_ret (v:=.tuple #[.agg #[.bool G,.slice AA N cc,.int .i64 XX],.int .i64 0]) (by simp [results,Tryd.results29,go_sem,z0,z1,z2]) rfl ?_
      have hW:W.heap.size≤W.heap.size + 1 + 1:=by omega
      exact ⟨_,G,M,XX,rfl,D8.out.set3 Y8.out.k2 (fun z h=>by cases h),IM.out,bl_set (bl_set (bl_set Y8.out.b _ hW) _ hW) _ hW⟩
    · have em:min x x'=x':=by omega
      rw [em,show (x' - x').toNat=0 by omega,Int.pow_zero,Int.mul_one]
      obtain ⟨E,hE⟩:∃ E,(x - x').toNat=E:=⟨_,rfl⟩
      rw [hE]
      have hE2:E≤64 * A':=by omega
      have bs:(u * 2 ^ E + t).natAbs < 2 ^ (64 * (max k l + A' + 1)):=by have h1:=bu E hE2;have h2:=bt 0 (by omega);rw [Int.pow_zero,Int.mul_one] at h2;exact Nat.lt_of_le_of_lt (Int.natAbs_add_le _ _) (bsum _ _ h1 h2)
      have sL:Sm (((u * 2 ^ E).natAbs:Nat):Int):=sm_pw (bu E hE2) (by omega)
      have LS:Hid (∀ w b,IntAt w b u→Calls Tryd.prog 47 #[pt b,pt b,.int .u64 (E:Int)] w (GPost b (u * 2 ^ E) w)):=Lib.hid (fun w b h=>lsh_c h h E (by omega) sU)
      have MX:Hid (∀ w b,IntAt w b (u * 2 ^ E + t)→Calls Tryd.prog 45 #[pt b,.int .i64 x'] w (MadePost (max k l + A' + 1) (u * 2 ^ E + t) x' w)):=Lib.hid (fun w b h=>MD.out w b _ _ bs (by omega) h)
      have l1:decide (x < x')=false:=decide_eq_false c1
      have l2:decide (16385 < x - x')=false:=decide_eq_false (by omega)
      have l3:IntKind.u64.wrap (x - x')=(E:Int):=by rw [IntKind.wrap_u64];omega
      have SL:=Lib.hid sL
      have SQ:=Lib.hid sT
      obtain ⟨V,hV⟩:∃ V:Int,u * 2 ^ E=V:=⟨_,rfl⟩
      rw [hV] at SL LS MX ⊢
      clear c0 c1 eU eX em bs bu bt bpow bsum bm bm' hk hA he he' a1 a2 z1 z2 sm1 sm2 sU sT wx hu ht hE hE2 sL n1 n2 MD hV
      have d0:=kb_cell Y0.out.k0 (i:=0) rfl;have d1:=kb_cell Y0.out.k0 (i:=1) rfl;have d2:=kb_cell Y0.out.k0 (i:=2) rfl;have e0:=kb_cell Y0.out.k1 (i:=0) rfl;have e1:=kb_cell Y0.out.k1 (i:=1) rfl;have e2:=kb_cell Y0.out.k1 (i:=2) rfl
      go_enter Tryd.func29,Tryd.ntmps29
      go_upto_region 3 with (go_at_call 42;(with_reducible refine (BC.out _ Y0.out.b).mono ?_);rintro e w1 ⟨rfl,hb⟩;have Y1:=Lib.hid (Y0.out.then hb);clear hb)
      clear d0 d1 d2 e0 e1 e2
      have hS:w1.drew.cell? ⟨W.heap.size,0,none⟩=some (.bool g)∧w1.drew.cell? ⟨W.heap.size,1,none⟩=some (.slice A n c)∧w1.drew.cell? ⟨W.heap.size,2,none⟩=some (.int .i64 x)∧w1.drew.cell? ⟨W.heap.size + 1,0,none⟩=some (.bool g')∧w1.drew.cell? ⟨W.heap.size + 1,1,none⟩=some (.slice B n' c')∧w1.drew.cell? ⟨W.heap.size + 1,2,none⟩=some (.int .i64 x'):=⟨kb_cell Y1.out.drew.k0 (i:=0) rfl,kb_cell Y1.out.drew.k0 (i:=1) rfl,kb_cell Y1.out.drew.k0 (i:=2) rfl,kb_cell Y1.out.drew.k1 (i:=0) rfl,kb_cell Y1.out.drew.k1 (i:=1) rfl,kb_cell Y1.out.drew.k1 (i:=2) rfl⟩
      refine wp_region_G (g:=3) (S:=fun w'=>w'.cell? ⟨W.heap.size,0,none⟩=some (.bool g)∧w'.cell? ⟨W.heap.size,1,none⟩=some (.slice A n c)∧w'.cell? ⟨W.heap.size,2,none⟩=some (.int .i64 x)∧w'.cell? ⟨W.heap.size + 1,0,none⟩=some (.bool g')∧w'.cell? ⟨W.heap.size + 1,1,none⟩=some (.slice B n' c')∧w'.cell? ⟨W.heap.size + 1,2,none⟩=some (.int .i64 x')) (by kernel_rfl) ?_
      have Y2:=Lib.hid Y1.out.drew
      obtain ⟨w2,hw2⟩:∃ w,w1.drew=w:=⟨_,rfl⟩
      rw [hw2] at hS Y2
      rw [hw2]
      clear hw2
      (refine wpG_ldC (i:=0) [1,3] (v:=?_) rfl rfl (by kernel_rfl) (by kernel_rfl) (by kernel_rfl) (by kernel_rfl) (fun _ _ _ h=>h) (Or.inl ⟨by rfl,?_⟩) hS ?_;rotate_left;focus (intro w hSw;(try dsimp only at hSw);go_simp;first|done|with_reducible rfl|exact rfl));(try simp only [Act.put,zA,zB,zC,zD,zE,zF])
      (refine wpG_ld (i:=2) 3 (v:=?_) rfl rfl (by kernel_rfl) (by kernel_rfl) (by kernel_rfl) (by kernel_rfl) (fun _ _ _ h=>h) (Or.inl ⟨by rfl,?_⟩) hS ?_;rotate_left;focus (intro w hSw;(try dsimp only at hSw);go_simp;first|done|with_reducible rfl|exact rfl));(try simp only [Act.put,zA,zB,zC,zD,zE,zF])
      refine wpG_one (i:=1) (by kernel_rfl) rfl (fun K hK=>?_);have HK:=Lib.hid hK;clear hK
      go_simp
      (with_reducible refine (WX.out _ Y2.out.b).mono ?_)
      rintro e w3 ⟨b,rfl,hbs,hI,hb⟩
      have Y3:=Lib.hid (Y2.out.then hb)
      have IX:=Lib.hid hI
      have NB:=Lib.hid (show W.heap.size + 1 + 1 < b by have:=kb_lt Y2.out.k2;omega)
      refine HK.out _ _ (Or.inr ⟨kb_cell Y3.out.k0 (i:=0) rfl,kb_cell Y3.out.k0 (i:=1) rfl,kb_cell Y3.out.k0 (i:=2) rfl,kb_cell Y3.out.k1 (i:=0) rfl,kb_cell Y3.out.k1 (i:=1) rfl,kb_cell Y3.out.k1 (i:=2) rfl⟩) ?_
      clear hb hbs hI hS HK K
      (try simp only [Act.put,zA,zB,zC,zD,zE,zF])
      refine wpG_one (i:=3) (by kernel_rfl) rfl (fun K hK=>?_);have HK:=Lib.hid hK;clear hK
      go_simp
      (with_reducible refine (WY.out _ Y3.out.b).mono ?_)
      rintro e w4 ⟨b',rfl,hbs,hI,hb⟩
      have Y4:=Lib.hid (Y3.out.then hb)
      have IY:=Lib.hid hI
      have NE:=Lib.hid (show b < b' by have:=IX.out.lt;omega)
      have IX:=Lib.hid (IX.out.below hb)
      refine HK.out _ _ (Or.inl (by kernel_rfl)) ?_
      clear hb hbs hI HK K
      (try simp only [Act.put,zA,zB,zC,zD,zE,zF])
      (refine wpG_take (i:=4) (v:=?_) rfl rfl (by kernel_rfl) (by kernel_rfl) (by kernel_rfl) (fun _ _ _ h=>h) (Or.inl ⟨by rfl,fun w=>?_⟩) (Or.inl (by kernel_rfl)) ?_;rotate_left;focus (go_simp;first|done|with_reducible rfl|exact rfl));(try simp only [Act.put,zA,zB,zC,zD,zE,zF]);(refine wpG_take (i:=5) (v:=?_) rfl rfl (by kernel_rfl) (by kernel_rfl) (by kernel_rfl) (fun _ _ _ h=>h) (Or.inl ⟨by rfl,fun w=>?_⟩) (Or.inl (by kernel_rfl)) ?_;rotate_left;focus (go_simp;first|done|with_reducible rfl|exact rfl));(try simp only [Act.put,zA,zB,zC,zD,zE,zF])
      refine wpG_done (by kernel_rfl) ?_ _
      have d0:=kb_cell Y4.out.k0 (i:=0) rfl;have d1:=kb_cell Y4.out.k0 (i:=1) rfl;have d2:=kb_cell Y4.out.k0 (i:=2) rfl;have e0:=kb_cell Y4.out.k1 (i:=0) rfl;have e1:=kb_cell Y4.out.k1 (i:=1) rfl;have e2:=kb_cell Y4.out.k1 (i:=2) rfl
      go_upto_region 11 with (go_at_call 44;(with_reducible (first|refine (SG.out _ _ _ IX.out).mono ?_|refine (SG.out _ _ _ IY.out).mono ?_));rintro e w' ⟨rfl,rfl⟩)
      clear d0 d1 d2 e0 e1 e2
      have hS:w4.drew.cell? ⟨W.heap.size,0,none⟩=some (.bool g)∧w4.drew.cell? ⟨W.heap.size,1,none⟩=some (.slice A n c)∧w4.drew.cell? ⟨W.heap.size,2,none⟩=some (.int .i64 x)∧w4.drew.cell? ⟨W.heap.size + 1,0,none⟩=some (.bool g')∧w4.drew.cell? ⟨W.heap.size + 1,1,none⟩=some (.slice B n' c')∧w4.drew.cell? ⟨W.heap.size + 1,2,none⟩=some (.int .i64 x'):=⟨kb_cell Y4.out.drew.k0 (i:=0) rfl,kb_cell Y4.out.drew.k0 (i:=1) rfl,kb_cell Y4.out.drew.k0 (i:=2) rfl,kb_cell Y4.out.drew.k1 (i:=0) rfl,kb_cell Y4.out.drew.k1 (i:=1) rfl,kb_cell Y4.out.drew.k1 (i:=2) rfl⟩
      refine wp_region_G (g:=10) (S:=fun w'=>w'.cell? ⟨W.heap.size,0,none⟩=some (.bool g)∧w'.cell? ⟨W.heap.size,1,none⟩=some (.slice A n c)∧w'.cell? ⟨W.heap.size,2,none⟩=some (.int .i64 x)∧w'.cell? ⟨W.heap.size + 1,0,none⟩=some (.bool g')∧w'.cell? ⟨W.heap.size + 1,1,none⟩=some (.slice B n' c')∧w'.cell? ⟨W.heap.size + 1,2,none⟩=some (.int .i64 x')) (by kernel_rfl) ?_
      have Y6:=Lib.hid Y4.out.drew
      have IX:=Lib.hid IX.out.drew
      have IY:=Lib.hid IY.out.drew
      obtain ⟨w6,hw6⟩:∃ w,w4.drew=w:=⟨_,rfl⟩
      rw [hw6] at hS Y6 IX IY
      rw [hw6]
      clear hw6
      (refine wpG_take (i:=0) (v:=?_) rfl rfl (by kernel_rfl) (by kernel_rfl) (by kernel_rfl) (fun _ _ _ h=>h) (Or.inl ⟨by rfl,fun w=>?_⟩) (Or.inr hS) ?_;rotate_left;focus (go_simp;first|done|with_reducible rfl|exact rfl));(try simp only [Act.put,zA,zB,zC,zD,zE,zF]);(refine wpG_take (i:=1) (v:=?_) rfl rfl (by kernel_rfl) (by kernel_rfl) (by kernel_rfl) (fun _ _ _ h=>h) (Or.inl ⟨by rfl,fun w=>?_⟩) (Or.inr hS) ?_;rotate_left;focus (go_simp;first|done|with_reducible rfl|exact rfl));(try simp only [Act.put,zA,zB,zC,zD,zE,zF]);(refine wpG_take (i:=2) (v:=?_) rfl rfl (by kernel_rfl) (by kernel_rfl) (by kernel_rfl) (fun _ _ _ h=>h) (Or.inl ⟨by rfl,fun w=>?_⟩) (Or.inr hS) ?_;rotate_left;focus (go_simp;first|done|with_reducible rfl|exact rfl));(try simp only [Act.put,zA,zB,zC,zD,zE,zF]);(refine wpG_take (i:=3) (v:=?_) rfl rfl (by kernel_rfl) (by kernel_rfl) (by kernel_rfl) (fun _ _ _ h=>h) (Or.inl ⟨by rfl,fun w=>?_⟩) (Or.inr hS) ?_;rotate_left;focus (go_simp;first|done|with_reducible rfl|exact rfl));(try simp only [Act.put,zA,zB,zC,zD,zE,zF]);(refine wpG_take (i:=4) (v:=?_) rfl rfl (by kernel_rfl) (by kernel_rfl) (by kernel_rfl) (fun _ _ _ h=>h) (Or.inl ⟨by rfl,fun w=>?_⟩) (Or.inr hS) ?_;rotate_left;focus (go_simp;first|done|with_reducible rfl|exact rfl));(try simp only [Act.put,zA,zB,zC,zD,zE,zF])
      (refine wpG_take (i:=6) (v:=?_) rfl rfl (by kernel_rfl) (by kernel_rfl) (by kernel_rfl) (fun _ _ _ h=>h) (Or.inl ⟨by rfl,fun w=>?_⟩) (Or.inr hS) ?_;rotate_left;focus (go_simp;first|done|with_reducible rfl|exact rfl));(try simp only [Act.put,zA,zB,zC,zD,zE,zF])
      (refine wpG_take (i:=8) (v:=?_) rfl rfl (by kernel_rfl) (by kernel_rfl) (by kernel_rfl) (fun _ _ _ h=>h) (Or.inl ⟨by rfl,fun w=>?_⟩) (Or.inr hS) ?_;rotate_left;focus (go_simp;first|done|with_reducible rfl|exact rfl));(try simp only [Act.put,zA,zB,zC,zD,zE,zF])
      (refine wpG_ld (i:=9) 10 (v:=?_) rfl rfl (by kernel_rfl) (by kernel_rfl) (by kernel_rfl) (by kernel_rfl) (fun _ _ _ h=>h) (Or.inl ⟨by rfl,?_⟩) hS ?_;rotate_left;focus (intro w hSw;(try dsimp only at hSw);go_simp;first|done|with_reducible rfl|exact rfl));(try simp only [Act.put,zA,zB,zC,zD,zE,zF])
      refine wpG_one (i:=5) (by kernel_rfl) rfl (fun K hK=>?_);have HK:=Lib.hid hK;clear hK
      go_simp
      (with_reducible refine (LS.out _ _ IX.out).mono ?_)
      rintro e w7 ⟨rfl,hI,hz⟩
      have IY:=Lib.hid (IY.out.keep IX.out (Nat.ne_of_gt NE.out) hz)
      have IX:=Lib.hid hI
      have Y7:=Lib.hid (Y6.out.bz hz NB.out)
      refine HK.out _ _ (Or.inr ⟨kb_cell Y7.out.k0 (i:=0) rfl,kb_cell Y7.out.k0 (i:=1) rfl,kb_cell Y7.out.k0 (i:=2) rfl,kb_cell Y7.out.k1 (i:=0) rfl,kb_cell Y7.out.k1 (i:=1) rfl,kb_cell Y7.out.k1 (i:=2) rfl⟩) ?_
      clear hI hz HK K hS
      (try simp only [Act.put,zA,zB,zC,zD,zE,zF])
      refine wpG_one (i:=7) (by kernel_rfl) rfl (fun K hK=>?_);have HK:=Lib.hid hK;clear hK
      go_simp
      (with_reducible refine (AD.out _ _ _ _ _ _ SL.out SQ.out IX.out IX.out IY.out).mono ?_)
      rintro e w9 ⟨rfl,hI,hz⟩
      have IS:=Lib.hid hI
      have Y9:=Lib.hid (Y7.out.bz hz NB.out)
      refine HK.out _ _ (Or.inr ⟨kb_cell Y9.out.k0 (i:=0) rfl,kb_cell Y9.out.k0 (i:=1) rfl,kb_cell Y9.out.k0 (i:=2) rfl,kb_cell Y9.out.k1 (i:=0) rfl,kb_cell Y9.out.k1 (i:=1) rfl,kb_cell Y9.out.k1 (i:=2) rfl⟩) ?_
      clear hI hz HK K
      (try simp only [Act.put,zA,zB,zC,zD,zE,zF])
      refine wpG_one (i:=10) (by kernel_rfl) rfl (fun K hK=>?_);have HK:=Lib.hid hK;clear hK
      go_simp
      (with_reducible refine (MX.out _ _ IS.out).mono ?_)
      rintro e w8 ⟨dd,G,M,XX,rfl,hD,hM,hb⟩
      obtain ⟨AA,cc,rfl,hlc,hC⟩:=hD
      have D8:=Lib.hid (show Dy w8 (.agg #[.bool G,.slice AA (lbs M).length cc,.int .i64 XX]) G M XX from ⟨AA,cc,rfl,hlc,hC⟩)
      have IM:=Lib.hid hM
      have Y8:=Lib.hid (Y9.out.then hb)
      obtain ⟨N,hN⟩:∃ N,(lbs M).length=N:=⟨_,rfl⟩
      rw [hN] at D8
      simp only [hN]
      clear hlc hC hM hb hN
      refine HK.out _ _ (Or.inl (by kernel_rfl)) ?_
      clear HK K
      (try simp only [Act.put,zA,zB,zC,zD,zE,zF])
      have f0:=kb_frozen Y8.out.k2 0
      have f1:=kb_frozen Y8.out.k2 1
      have f2:=kb_frozen Y8.out.k2 2
      have g0:=kb_cell Y8.out.k2 (i:=0) rfl
      have g1:=kb_cell Y8.out.k2 (i:=1) rfl
      have g2:=kb_cell Y8.out.k2 (i:=2) rfl
      (refine wpG_take (i:=11) (v:=?_) rfl rfl (by kernel_rfl) (by kernel_rfl) (by kernel_rfl) (fun _ _ _ h=>h) (Or.inl ⟨by rfl,fun w=>?_⟩) (Or.inl (by kernel_rfl)) ?_;rotate_left;focus (go_simp;first|done|with_reducible rfl|exact rfl));(try simp only [Act.put,zA,zB,zC,zD,zE,zF]);(refine wpG_take (i:=12) (v:=?_) rfl rfl (by kernel_rfl) (by kernel_rfl) (by kernel_rfl) (fun _ _ _ h=>h) (Or.inl ⟨by rfl,fun w=>?_⟩) (Or.inl (by kernel_rfl)) ?_;rotate_left;focus (go_simp;first|done|with_reducible rfl|exact rfl));(try simp only [Act.put,zA,zB,zC,zD,zE,zF])
      refine wpG_one (i:=13) (by kernel_rfl) rfl (fun K hK=>?_);have HK:=Lib.hid hK;clear hK;go_simp;refine HK.out _ _ (Or.inl (by kernel_rfl)) ?_;clear HK K;(try simp only [Act.put,zA,zB,zC,zD,zE,zF])
      refine wpG_one (i:=14) (by kernel_rfl) rfl (fun K hK=>?_);have HK:=Lib.hid hK;clear hK;go_simp;refine HK.out _ _ (Or.inl (by kernel_rfl)) ?_;clear HK K;(try simp only [Act.put,zA,zB,zC,zD,zE,zF])
      refine wpG_done (by kernel_rfl) ?_ _
      go_wp2
      have y2:=set3_at (a':=.bool G) (b':=.slice AA N cc) (c':=.int .i64 XX) Y8.out.k2
      have z0:=kb_cell (show (((w8.setCell ⟨W.heap.size + 1 + 1,0,none⟩ (.bool G)).setCell ⟨W.heap.size + 1 + 1,1,none⟩ (.slice AA N cc)).setCell ⟨W.heap.size + 1 + 1,2,none⟩ (.int .i64 XX)).heap[W.heap.size + 1 + 1]?=_ from y2) (i:=0) rfl
      have z1:=kb_cell (show (((w8.setCell ⟨W.heap.size + 1 + 1,0,none⟩ (.bool G)).setCell ⟨W.heap.size + 1 + 1,1,none⟩ (.slice AA N cc)).setCell ⟨W.heap.size + 1 + 1,2,none⟩ (.int .i64 XX)).heap[W.heap.size + 1 + 1]?=_ from y2) (i:=1) rfl
      have z2:=kb_cell (show (((w8.setCell ⟨W.heap.size + 1 + 1,0,none⟩ (.bool G)).setCell ⟨W.heap.size + 1 + 1,1,none⟩ (.slice AA N cc)).setCell ⟨W.heap.size + 1 + 1,2,none⟩ (.int .i64 XX)).heap[W.heap.size + 1 + 1]?=_ from y2) (i:=2) rfl
      refine bodyPost_ret (v:=.tuple #[.agg #[.bool G,.slice AA N cc,.int .i64 XX],.int .i64 0]) (by simp [results,Tryd.results29,go_sem,z0,z1,z2]) rfl ?_
      have hW:W.heap.size≤W.heap.size + 1 + 1:=by omega
      exact ⟨_,G,M,XX,rfl,D8.out.set3 Y8.out.k2 (fun z h=>by cases h),IM.out,bl_set (bl_set (bl_set Y8.out.b _ hW) _ hW) _ hW⟩
end Go.Proofs.YtalhpbilkhdfhaaDoor
namespace Go.Proofs.YtalhpbilkhdfhaaDoor
open Go Go.RowKit GFl
set_option maxRecDepth 100000
attribute [local go_sem] run_f64bits run_f64frombits run_neg_f64
structure IsUlp (x z:Nat):Prop where
  w:W64 z
  s:neg z=false
  f:rg z < 9218868437227405312
  m:mg B52 (rg z)=p2 (max (rg x / B52) 1 - 1)
theorem IsUlp.unique {x y z:Nat} (h:IsUlp x y) (h':IsUlp x z):y=z :=
  w64_ext h.w h'.w (h.s.trans h'.s.symm) (mg_inj B52_pos (h.m.trans h'.m.symm))
end Go.Proofs.YtalhpbilkhdfhaaDoor
namespace Go.Proofs.YtalhpbilkhdfhaaDoor
open Go Go.RowKit GFl
set_option maxRecDepth 100000
attribute [local go_sem] run_f64bits run_f64frombits run_neg_f64
theorem bitLenAux_len:∀ (f x:Nat),x < 2 ^ f→x ≠ 0→1≤Lib.bitLenAux f x∧2 ^ (Lib.bitLenAux f x - 1)≤x∧x < 2 ^ Lib.bitLenAux f x
  | 0,x,h,h0=>by simp at h;omega
  | f + 1,x,h,h0=>by
    unfold Lib.bitLenAux
    rw [if_neg h0]
    rw [Nat.pow_succ] at h
    by_cases h1:x / 2=0
    · have hx:x=1:=by omega
      subst hx
      have e:Lib.bitLenAux f 0=0:=by cases f <;> simp [Lib.bitLenAux]
      rw [h1,e];decide
    · obtain ⟨a,b,c⟩:=bitLenAux_len f (x / 2) (by omega) h1
      generalize Lib.bitLenAux f (x / 2)=n at *
      refine ⟨by omega,?_,?_⟩
      · have e:1 + n - 1=(n - 1) + 1:=by omega
        rw [e,Nat.pow_succ];omega
      · rw [Nat.add_comm,Nat.pow_succ];omega
theorem len_b7 {x:Nat} (h:x < 18446744073709551616) (h0:x ≠ 0):Len x (Lib.bitLen x):=by
  obtain ⟨a,b,c⟩:=bitLenAux_len 64 x (by omega) h0
  exact ⟨a,by rw [p2_def];exact b,by rw [p2_def];exact c⟩
theorem bitLen_le64 {x:Nat} (h:x < 18446744073709551616):Lib.bitLen x≤64:=by
  by_cases h0:x=0
  · subst h0;decide
  · have l:=len_b7 h h0
    have h1:p2 (Lib.bitLen x - 1) < p2 64:=Nat.lt_of_le_of_lt l.lo (by rw [p2_def];omega)
    have:=p2_lt h1
    omega
def JoinPost (ng:Bool) (fr:Nat) (ex:Int) (w:World) (e:Ending) (w':World):Prop:=∃ z ok,e=.returned (.tuple #[.float .f64 z,.bool ok])∧(ok=true ↔ joinOk fr ex)∧(ok=true→IsJoin ng fr ex z)∧(ok=false→z=0)∧Below w.heap.size w w'
theorem JoinPost.no {ng:Bool} {fr:Nat} {ex:Int} {w w':World} (h:¬ joinOk fr ex) (hb:Below w.heap.size w w'):JoinPost ng fr ex w (.returned (.tuple #[.float .f64 0,.bool false])) w' :=
  ⟨0,false,rfl,by simp [h],by simp,fun _=>rfl,hb⟩
theorem JoinPost.yes {ng:Bool} {fr:Nat} {ex:Int} {z:Nat} {w w':World} (h:joinOk fr ex) (hj:IsJoin ng fr ex z) (hb:Below w.heap.size w w'):JoinPost ng fr ex w (.returned (.tuple #[.float .f64 z,.bool true])) w' :=
  ⟨z,true,rfl,by simp [h],fun _=>hj,by simp,hb⟩
theorem isJoin_zero (ng:Bool):IsJoin ng 0 0 (wd ng 0) :=
  ⟨wd_w (by decide),wd_neg (by decide),by rw [wd_rg (by decide)];decide,by rw [wd_rg (by decide),Nat.zero_mul];decide⟩
theorem cv_u64 {fr z:Nat} (h:Ieee.double.write (.number false fr 0)=z):floatOfInt .f64 (fr:Int)=z:=by
  unfold floatOfInt FloatKind.nearest FloatKind.encode FloatKind.format
  have h1:¬ (fr:Int) < 0:=by omega
  simp only [h1,decide_false,Int.natAbs_natCast]
  exact h
set_option maxHeartbeats 1000000 in
theorem join_c (ng:Bool) (fr:Nat) (ex:Int) (hf:fr < 18446744073709551616) (he1:-9223372036854775808≤ex) (he2:ex≤9223372036854775807) (w:World) :
    Calls Tryd.prog 79 #[.agg #[.bool ng,.int .u64 fr,.int .i64 ex]] w (JoinPost ng fr ex w):=by
  by_cases h0:fr=0
  · subst h0
    by_cases hx:ex=0
    · subst hx
      have hz:Lib.bitLen 0=0:=by decide
      have c0:floatOfInt .f64 0=0:=by decide
      cases ng
      all_goals
        go_enter Tryd.func79,Tryd.ntmps79
        go_wp2_with (first|(go_at_call 72;refine (len64_c 0 (by decide) _).mono ?_;rw [hz];rintro e w' ⟨rfl,rfl⟩)|(go_at_call 84;refine (ldexp_00 _ _ (w_const (by decide)) (by decide) _).mono ?_;rintro e w' ⟨rfl,rfl⟩)|(go_at_call 37;refine (copysign_c _ _ (w_const (by decide)) (w_const (by decide)) _).mono ?_;rintro e w' ⟨rfl,rfl⟩))
        go_ret2
        exact JoinPost.yes (.inl ⟨rfl,rfl⟩) (isJoin_zero _) (bl_alloc (Below.refl _ _) _)
    · have hx':(ex != 0)=true:=by simp [hx]
      have hno:¬ joinOk 0 ex:=by rw [joinOk_zero];exact hx
      have hz:Lib.bitLen 0=0:=by decide
      clear hx
      go_enter Tryd.func79,Tryd.ntmps79
      go_wp2_with (first|(go_at_call 72;refine (len64_c 0 (by decide) _).mono ?_;rw [hz];rintro e w' ⟨rfl,rfl⟩))
      go_ret2
      exact JoinPost.no hno (bl_alloc (Below.refl _ _) _)
  · have k1:((fr:Int) == 0)=false:=by simp [h0]
    have k2:((fr:Int) != 0)=true:=by simp [h0]
    have l:=len_b7 hf h0
    have l64:=bitLen_le64 hf
    by_cases hev:fr % 2=0
    · have k3:((fr:Int) % 2 == 0)=true:=by simp;omega
      have hno:=joinOk_even (ex:=ex) h0 hev
      have H:=Lib.hid hno
      clear h0 hev l hno
      go_enter Tryd.func79,Tryd.ntmps79
      go_wp2_with (first|(go_at_call 72;refine (len64_c fr hf _).mono ?_;rintro e w' ⟨rfl,rfl⟩))
      go_ret2
      exact JoinPost.no H.out (bl_alloc (Below.refl _ _) _)
    · have k3:((fr:Int) % 2 == 0)=false:=by simp;omega
      have hok:=joinOk_odd (ex:=ex) l (by omega)
      have l53:=l.le53
      have lfit:=@Len.fits _ _ ex l
      have lp:=l.pos
      obtain ⟨n,hn⟩:∃ n,Lib.bitLen fr=n:=⟨_,rfl⟩
      rw [hn] at hok l53 lfit lp l64
      have HN:=Lib.hid hn
      clear hn l h0 hev
      by_cases hy:n≤53∧-1074≤ex∧ex + n≤1024
      · obtain ⟨y1,y2,y3⟩:=hy
        obtain ⟨c,hc,c1,c2,c3,c4⟩:=ofNat64 (l53.1 y1)
        have hcv:=cv_u64 hc
        have hj:∀ z,IsLd c ex z→IsJoin false fr ex z:=fun z h=>isJoin_ld c4 c2 (l53.1 y1) y2 ((lfit y2).2 y3) h
        have hpos:0 < rg c:=by
          rcases Nat.eq_zero_or_pos (rg c) with h|h
          · rw [h,show mg B52 0=0 from by decide] at c4
            rcases Nat.mul_eq_zero.1 c4.symm with h'|h'
            · subst h';simp at k1
            · have:=p2_pos 1074;omega
          · exact h
        have J:=Lib.hid hj
        have OK:=Lib.hid (hok.2 ⟨y1,y2,y3⟩)
        clear hok l53 lfit hj c4 hc c2
        cases ng
        all_goals
          go_enter Tryd.func79,Tryd.ntmps79
          go_wp2_with (first|(go_at_call 72;refine (len64_c fr hf _).mono ?_;rw [HN.out];rintro e w' ⟨rfl,rfl⟩)|(go_at_call 84;refine (ldexp_cc _ _ c1 hpos c3 (by omega) (by omega) _).mono ?_;rintro e w' ⟨z,rfl,hl,⟨⟨nq,rfl⟩⟩⟩)|(go_at_call 37;refine (copysign_c _ _ (J.out z hl).w (w_const (by decide)) _).mono ?_;rintro e w' ⟨rfl,rfl⟩))
          go_ret2
          first
            | exact JoinPost.yes OK.out (J.out z hl) (bl_drewN (bl_alloc (Below.refl _ _) _) _)
            | exact JoinPost.yes OK.out (isJoin_neg (J.out z hl)) (bl_drewN (bl_alloc (Below.refl _ _) _) _)
      · have H:=Lib.hid (mt hok.1 hy)
        clear hok l53 lfit
        go_enter Tryd.func79,Tryd.ntmps79
        go_wp2_with (first|(go_at_call 72;refine (len64_c fr hf _).mono ?_;rw [HN.out];rintro e w' ⟨rfl,rfl⟩))
        all_goals go_ret2
        all_goals exact JoinPost.no H.out (bl_alloc (Below.refl _ _) _)
end Go.Proofs.YtalhpbilkhdfhaaDoor
namespace Go.Proofs.YtalhpbilkhdfhaaDoor
open Go Go.RowKit GFl Ieee
set_option maxRecDepth 100000
set_option linter.unusedSimpArgs false
attribute [local go_sem] run_f64bits run_f64frombits run_neg_f64
theorem add_z {a b s:Nat} (ha:W64 a) (hb:W64 b) (fa:rg a < 9218868437227405312) (fb:rg b < 9218868437227405312) (h:double.add a b=some s) (z:rg a=0):rg s=rg b:=by
  obtain ⟨r,hr,e⟩:=add64 ha hb fa fb
  have hv:val a=0:=by rw [val_eq',z];cases neg a <;> decide +kernel
  rw [hv,Int.zero_add] at hr
  have hm:(val b).natAbs=mg B52 (rg b):=by
    rw [val_eq']
    generalize mg B52 (rg b)=n
    cases neg b <;> simp
  have hr2:r=rg b:=rn_exact B52_pos (by decide) hr (q:=rg b) (by rw [hm,Nat.mul_one])
  rw [e] at h
  have h:=(Option.some.inj h).symm
  rw [h,wd_rg (by omega),hr2]
  omega
end Go.Proofs.YtalhpbilkhdfhaaDoor
namespace Go.Proofs.YtalhpbilkhdfhaaDoor
open Go Go.RowKit GFl Ieee
set_option maxRecDepth 100000
set_option linter.unusedSimpArgs false
attribute [local go_sem] run_f64bits run_f64frombits run_neg_f64
theorem frow3 (x y z:Nat) (w:World) (t:TypeId):FRow (w.alloc (.cells #[.float .f64 x,.float .f64 y,.float .f64 z] t)) w.heap.size [x,y,z]:=by
  intro k hk
  have:k=0 ∨ k=1 ∨ k=2:=by simp at hk;omega
  rcases this with rfl|rfl|rfl
  all_goals exact kb_cell (w:=w.alloc (.cells #[.float .f64 x,.float .f64 y,.float .f64 z] t)) Array.getElem?_push_size rfl
theorem sgI_rng (x:Nat):-1≤sgI x∧sgI x≤1:=by unfold sgI;(repeat' split) <;> omega
theorem sgI_mul (x y:Nat):wrap64 (sgI x * sgI y)=sgI x * sgI y:=by
  obtain ⟨h1,h2⟩:=sgI_rng x
  obtain ⟨h3,h4⟩:=sgI_rng y
  have a1:sgI x=-1 ∨ sgI x=0 ∨ sgI x=1:=by omega
  rcases a1 with h|h|h <;> rw [h] <;> unfold wrap64 <;> omega
set_option maxHeartbeats 4000000 in
theorem rdiv_p (a b q t:Nat) (m:Int) (ha:W64 a) (hb:W64 b) (fa:fin a=true) (fb:fin b=true) (za:rg a ≠ 0) (zb:rg b ≠ 0) (pa:plainF a=true) (pb:plainF b=true) (pq:plainF q=true) (hq:double.div a b=some q) (qw:W64 q) (qr:rg q≤9218868437227405312) (ht:double.fma (fneg q) b a=some t) (tw:W64 t) (w:World) :
    Calls Tryd.prog 8 #[.float .f64 a,.float .f64 b,.int .i8 m] w fun e w'=>e=.returned (.float .f64 (settleW q (sgI t * sgI b) (wayI m)))∧Below w.heap.size w w':=by
  have ra:rg a < 9218868437227405312:=by unfold fin at fa;simpa using fa
  have rb:rg b < 9218868437227405312:=by unfold fin at fb;simpa using fb
  have fn:∀ (w:World) (bl:Nat),bl=w.heap.size→Calls Tryd.prog 18 #[.slice (some ⟨bl,0,none⟩) 2 2] (w.alloc (.cells #[.float .f64 a,.float .f64 b] 22)) fun e w'=>e=.returned (.bool true)∧w.alloc (.cells #[.float .f64 a,.float .f64 b] 22)=w':=fun w bl h=>h ▸
    (finite_c _ [a,b] (by simp) (by simp [ha,hb]) _ (frow2 a b w _)).mono fun _ _ h=>⟨by rw [h.1];simp [fa,fb],h.2⟩
  have pl:∀ (w:World) (bl:Nat),bl=w.heap.size→Calls Tryd.prog 24 #[.slice (some ⟨bl,0,none⟩) 3 3] (w.alloc (.cells #[.float .f64 a,.float .f64 b,.float .f64 q] 22)) fun e w'=>e=.returned (.bool true)∧w.alloc (.cells #[.float .f64 a,.float .f64 b,.float .f64 q] 22)=w':=fun w bl h=>h ▸
    (plain_c _ [a,b,q] (by simp) (by simp [ha,hb,qw]) _ (frow3 a b q w _)).mono fun _ _ h=>⟨by rw [h.1];simp [pa,pb,pq],h.2⟩
  have FN:=Lib.hid fn
  have PL:=Lib.hid pl
  have d0:∀ (t':TypeId) w,(binOp .quo t' (.float .f64 a) (.float .f64 b)).run Tryd.prog w=.ok (.float .f64 q) w:=fun t' w=>run_float_arith w .quo t' .f64 a b q hq
  have e0:(FloatKind.f64.format.order a 0 == some .eq)=false:=by rw [eqz ha (by omega),decide_eq_false za]
  have e1:(FloatKind.f64.format.order b 0 == some .eq)=false:=by rw [eqz hb (by omega),decide_eq_false zb]
  have D:=run_fma64 ht
  have WC:=Lib.hid (fun w=>way_c m w)
  have SC:=Lib.hid (fun off w=>settle_c q off (wayI m) qw qr w)
  have S1:=Lib.hid (fun w=>sign_c t tw w)
  have S2:=Lib.hid (fun w=>sign_c b hb w)
  have wm:=sgI_mul t b
  obtain ⟨x,hx⟩:∃ x,sgI t=x:=⟨_,rfl⟩
  obtain ⟨y,hy⟩:∃ y,sgI b=y:=⟨_,rfl⟩
  rw [hx] at S1
  rw [hy] at S2
  rw [hx,hy] at wm
  rw [hx,hy]
  clear fn pl ha hb fa fb za zb pa pb pq hq qw qr ht tw ra rb hx hy
  go_enter Tryd.func8,Tryd.ntmps8
  go_wp2_with (first|(go_at_call 17;refine (WC.out _).mono ?_;rintro e w' ⟨rfl,rfl⟩)|(go_at_call 18;refine (FN.out _ _ (by simp)).mono ?_;rintro e w' ⟨rfl,rfl⟩)|(go_at_call 24;refine (PL.out _ _ (by simp)).mono ?_;rintro e w' ⟨rfl,rfl⟩)|(go_at_call 23;(with_reducible (first|refine (S1.out _).mono ?_|refine (S2.out _).mono ?_));rintro e w' ⟨rfl,rfl⟩)|(go_at_call 22;refine (SC.out _ _).mono ?_;rintro e w' ⟨rfl,rfl⟩))
  go_ret
  exact ⟨rfl,by repeat' (first|(with_reducible exact Below.refl _ _)|(with_reducible refine bl_alloc ?_ _)|(with_reducible refine bl_drewN ?_ _)|(with_reducible refine bl_drew ?_)|(with_reducible refine bl_set ?_ _ (by simp)))⟩
theorem fo_eq {o:Option Nat} {y r:Nat} (h:Fo o r) (e:o=some y):r=y:=by subst e;exact h.2
theorem radd_t {a b c:Nat} {m:Int} (ha:W64 a) (hb:W64 b) (h:addR a b m=some c) (w:World):Calls Tryd.prog 6 #[.float .f64 a,.float .f64 b,.int .i8 m] w fun e w'=>e=.returned (.float .f64 c)∧Below w.heap.size w w':=by
  refine (radd_c a b m ha hb w).mono ?_
  rintro e w' ⟨r,rfl,hr,hb⟩
  exact ⟨by rw [fo_eq hr h],hb⟩
set_option maxHeartbeats 4000000 in
theorem awake03_of (w:World) (hI:∀ w',Below w.heap.size w w'→Calls Tryd.prog 33 #[.int .i64 9007199254740993,.int .i8 2] w' fun e w2=>e=.returned (.float .f64 4845873199050653697)∧Below w'.heap.size w' w2) :
    Calls Tryd.prog 13 #[] w fun e w'=>e=.returned (.bool true)∧Below w.heap.size w w':=by
  have HI:=Lib.hid hI
  have A1:=Lib.hid (fun w=>radd_t (a:=4607182418800017408) (b:=13830554455654793216) (c:=9223372036854775808) (m:=1) (w_const (by decide)) (w_const (by decide)) (by decide +kernel) w)
  have A2:=Lib.hid (fun w=>radd_t (a:=4607182418800017408) (b:=4368491638549381120) (c:=4607182418800017409) (m:=2) (w_const (by decide)) (w_const (by decide)) (by decide +kernel) w)
  have A3:=Lib.hid (fun w=>radd_t (a:=4607182418800017408) (b:=4368491638549381120) (c:=4607182418800017408) (m:=0) (w_const (by decide)) (w_const (by decide)) (by decide +kernel) w)
  have A4:=Lib.hid (fun w=>radd_t (a:=4607182418800017408) (b:=13830554455654793216) (c:=0) (m:=2) (w_const (by decide)) (w_const (by decide)) (by decide +kernel) w)
  have dq:double.div 4607182418800017408 4613937818241073152=some 4599676419421066581:=by decide +kernel
  have df:∃ t,double.fma (fneg 4599676419421066581) 4613937818241073152 4607182418800017408=some t∧W64 t∧sgI t=1:=by
    refine ⟨(double.fma (fneg 4599676419421066581) 4613937818241073152 4607182418800017408).getD 0,?_,?_,?_⟩ <;> first|decide +kernel|exact w_const (by decide +kernel)
  obtain ⟨t,ht,tw,tg⟩:=df
  have D1:Hid (∀ w,Calls Tryd.prog 8 #[.float .f64 4607182418800017408,.float .f64 4613937818241073152,.int .i8 2] w fun e w'=>e=.returned (.float .f64 4599676419421066582)∧Below w.heap.size w w'):=Lib.hid (fun w =>
    (rdiv_p 4607182418800017408 4613937818241073152 4599676419421066581 t 2 (w_const (by decide)) (w_const (by decide)) (by decide) (by decide) (by decide) (by decide) (by decide) (by decide) (by decide) dq (w_const (by decide)) (by decide) ht tw w).mono (fun e w' h=>⟨by rw [h.1,tg];exact ret_float (by decide +kernel),h.2⟩))
  have D2:Hid (∀ w,Calls Tryd.prog 8 #[.float .f64 4607182418800017408,.float .f64 4613937818241073152,.int .i8 1] w fun e w'=>e=.returned (.float .f64 4599676419421066581)∧Below w.heap.size w w'):=Lib.hid (fun w =>
    (rdiv_p 4607182418800017408 4613937818241073152 4599676419421066581 t 1 (w_const (by decide)) (w_const (by decide)) (by decide) (by decide) (by decide) (by decide) (by decide) (by decide) (by decide) dq (w_const (by decide)) (by decide) ht tw w).mono (fun e w' h=>⟨by rw [h.1,tg];exact ret_float (by decide +kernel),h.2⟩))
  have sq:double.sqrt 4616189618054758400=some 4611686018427387904:=by decide +kernel
  have sf:double.fma (fneg 4611686018427387904) 4611686018427387904 4616189618054758400=some 0:=by decide +kernel
  have S1:Hid (∀ w,Calls Tryd.prog 15 #[.float .f64 4616189618054758400,.int .i8 1] w fun e w'=>e=.returned (.float .f64 4611686018427387904)∧Below w.heap.size w w'):=Lib.hid (fun w =>
    (rsqrt_c 1 (w_const (by decide)) (by decide) (by decide) (by decide) sq (w_const (by decide)) (by decide) sf (w_const (by decide)) w).mono (fun e w' h=>⟨by rw [h.1];exact ret_float (by decide +kernel),h.2⟩))
  have sg1:Hid (∀ w,Calls Tryd.prog 19 #[.float .f64 9223372036854775808] w fun e w'=>e=.returned (.bool true)∧w=w'):=Lib.hid (fun w=>(signbit_c _ (w_const (by decide)) w).mono fun _ _ h=>⟨h.1,h.2.symm⟩)
  have sg2:Hid (∀ w,Calls Tryd.prog 19 #[.float .f64 0] w fun e w'=>e=.returned (.bool false)∧w=w'):=Lib.hid (fun w=>(signbit_c _ (w_const (by decide)) w).mono fun _ _ h=>⟨h.1,h.2.symm⟩)
  have m1:∀ (t':TypeId) w,(binOp .mul t' (.float .f64 4611686018427387904) (.float .f64 4368491638549381120)).run Tryd.prog w=.ok (.float .f64 4372995238176751616) w:=fun t' w=>run_float_arith w .mul t' .f64 _ _ _ (by decide +kernel)
  have m2:∀ (t':TypeId) w,(binOp .add t' (.float .f64 4607182418800017408) (.float .f64 4372995238176751616)).run Tryd.prog w=.ok (.float .f64 4607182418800017409) w:=fun t' w=>run_float_arith w .add t' .f64 _ _ _ (by decide +kernel)
  clear dq ht tw tg sq sf hI
  have B0:=Lib.hid (Below.refl w.heap.size w)
  go_enter Tryd.func13,Tryd.ntmps13
  go_wp2_with (first
    | (go_at_call 6;(with_reducible (first|refine (A1.out _).mono ?_|refine (A2.out _).mono ?_|refine (A3.out _).mono ?_|refine (A4.out _).mono ?_));rintro e w1 ⟨rfl,hb⟩;have B0:=Lib.hid (bl_then B0.out hb);clear hb)
    | (go_at_call 8;(with_reducible (first|refine (D1.out _).mono ?_|refine (D2.out _).mono ?_));rintro e w1 ⟨rfl,hb⟩;have B0:=Lib.hid (bl_then B0.out hb);clear hb)
    | (go_at_call 15;(with_reducible refine (S1.out _).mono ?_);rintro e w1 ⟨rfl,hb⟩;have B0:=Lib.hid (bl_then B0.out hb);clear hb)
    | (go_at_call 19;(with_reducible (first|refine (sg1.out _).mono ?_|refine (sg2.out _).mono ?_));rintro e w1 ⟨rfl,rfl⟩)
    | (go_at_call 33;(with_reducible refine (HI.out _ (by first|exact B0.out|exact bl_drew B0.out|exact bl_drewN B0.out _)).mono ?_);rintro e w1 ⟨rfl,hb⟩;have B0:=Lib.hid (bl_then B0.out hb);clear hb))
  go_ret
  exact ⟨ret_bool (by decide +kernel),by first|exact B0.out|exact bl_drewN B0.out _⟩
end Go.Proofs.YtalhpbilkhdfhaaDoor
namespace Go.Proofs.YtalhpbilkhdfhaaDoor
open Go Go.RowKit GFl Ieee
set_option maxRecDepth 100000
set_option linter.unusedSimpArgs false
attribute [local go_sem] run_f64bits run_f64frombits run_neg_f64
theorem rsub_c (a b:Nat) (m:Int) (ha:W64 a) (hb:W64 b) (w:World) :
    Calls Tryd.prog 11 #[.float .f64 a,.float .f64 b,.int .i8 m] w fun e w'=>∃ r,e=.returned (.float .f64 r)∧Fo (addR a (fneg b) m) r∧Below w.heap.size w w':=by
  have AC:=Lib.hid (radd_c a (fneg b) m ha (fneg_w hb) w)
  clear ha hb
  go_enter Tryd.func11,Tryd.ntmps11
  go_wp2_with (go_at_call 6;(with_reducible refine (AC.out).mono ?_);rintro e w1 ⟨r,rfl,hr,hb⟩;have HR:=Lib.hid hr;have HB:=Lib.hid hb;clear hr hb)
  go_ret
  exact ⟨r,rfl,HR.out,HB.out⟩
end Go.Proofs.YtalhpbilkhdfhaaDoor
namespace Go.Proofs.YtalhpbilkhdfhaaDoor
open Go Go.RowKit GFl
set_option maxRecDepth 100000
theorem jt1:IsJoin false 4503599627370497 1 4845873199050653697:=⟨w_const (by decide),by decide,by decide,by
  rw [show rg 4845873199050653697=4845873199050653697 from by decide,mg_norm (by decide)];decide +kernel⟩
theorem jt2:joinOk 4503599627370497 1:=Or.inr ⟨by decide,by decide,by decide,by decide +kernel⟩
theorem join_r (w:World):Calls Tryd.prog 79 #[.agg #[.bool false,.int .u64 4503599627370497,.int .i64 1]] w fun e w'=>e=.returned (.tuple #[.float .f64 4845873199050653697,.bool true])∧Below w.heap.size w w':=by
  refine (join_c false 4503599627370497 1 (by decide) (by decide) (by decide) w).mono ?_
  rintro e w' ⟨z,ok,rfl,h1,h2,_,hb⟩
  have h:=h1.2 jt2
  subst h
  rw [(h2 rfl).unique jt1]
  exact ⟨rfl,hb⟩
end Go.Proofs.YtalhpbilkhdfhaaDoor
namespace Go.Proofs.YtalhpbilkhdfhaaDoor
open Go Go.RowKit Nv GFl
open Go.Proofs.YtalhpbilkhdfhaaDoorW.PrintWords (Kd own_move own_ne own_lt own_base own_typed)
open XBn
set_option maxRecDepth 100000
set_option linter.unusedSimpArgs false
theorem YS.up {w:World} {d:Value} {k K:Nat} {E z:Int} (h:YS w d k K E z) (j:Nat):YS w d k (K + j) E (z * ((p2 j:Nat):Int)):=by
  obtain ⟨g,m,x,h1,h2,h3,h4,h5⟩:=h
  refine ⟨g,m,x,h1,h2,by push_cast;omega,h4,?_⟩
  rw [show (x + ((K + j:Nat):Int)).toNat=(x + K).toNat + j by omega,p2_add,Int.natCast_mul,← Int.mul_assoc,h5]
theorem YS.agg {w:World} {d:Value} {k K:Nat} {E z:Int} (h:YS w d k K E z):∃ g A n c x,d=.agg #[.bool g,.slice A n c,.int .i64 x]:=by
  obtain ⟨g,m,x,⟨A,c,rfl,_⟩,_⟩:=h
  exact ⟨g,A,_,c,x,rfl⟩
theorem YS.set3 {w:World} {b n c k K:Nat} {d:Value} {A:Option Addr} {g0 G:Bool} {E z x0 X:Int} {v0:Value} (h:YS w d k K E z) (hb:w.heap[b]?=some (.cells #[.bool g0,v0,.int .i64 x0] 44 (0,0))) (hv:∀ z,v0 ≠ .int .u64 z):YS (((w.setCell ⟨b,0,none⟩ (.bool G)).setCell ⟨b,1,none⟩ (.slice A n c)).setCell ⟨b,2,none⟩ (.int .i64 X)) d k K E z:=by
  obtain ⟨g,m,x,h1,h2⟩:=h
  exact ⟨g,m,x,h1.set3 hb hv,h2⟩
def ZY (k K:Nat) (E z:Int) (w:World) (e:Ending) (w':World):Prop:=∃ d,e=.returned d∧YS w' d k K E z∧Below w.heap.size w w'
theorem ycmp_s {W:World} {u v:Value} {k l K:Nat} {E E' z z':Int} (h:YS W u k K E z) (h':YS W v l K E' z') :
    Calls Tryd.prog 39 #[u,v] W fun e w'=>e=.returned (.tuple #[.int .i64 (cmpZ z z'),.int .i64 0])∧Below W.heap.size W w':=by
  obtain ⟨g,m,x,h1,r,h2,h3,h4⟩:=h
  obtain ⟨g',m',x',j1,r',j2,j3,j4⟩:=h'
  have:=ycmp1 h1 r j1 r' h2 j2
  rw [h4,j4] at this
  exact this
set_option maxHeartbeats 1000000 in
theorem rof_c (x:Nat) (hx:W64 x) (hf:rg x < 9218868437227405312) (W:World) (hT:Tab W):Calls Tryd.prog 28 #[.float .f64 x] W (ZY 1 1074 1023 (val x) W):=by
  have OC:Hid (∀ w,Below W.heap.size W w→Calls Tryd.prog 41 #[.float .f64 x] w (YPost 1 1074 1023 (val x) w)):=Lib.hid (fun w hb=>(yof_c x hx hf w (hT.below hb)).mono fun e w' ⟨d,g,m,y,h1,h2,h3,h4⟩=>⟨d,h1,fdy_ys h2 h3,h4⟩)
  clear hx hf hT
  have B0:=Lib.hid (bl_alloc (Below.refl W.heap.size W) nilD)
  have K0:=Lib.hid (kb_new (w:=W) (o:=nilD) (Below.refl _ _))
  go_enter Tryd.func28,Tryd.ntmps28
  go_upto_region 2 with (first
    | (go_at_call 41;(with_reducible refine (OC.out _ B0.out).mono ?_);rintro e w1 ⟨d,rfl,hd,hb⟩;obtain ⟨g,A,n,c,y,rfl⟩:=hd.agg;have HD:=Lib.hid hd;have B1:=Lib.hid (bl_then B0.out hb);have K1:=Lib.hid (kb_keep hb K0.out);clear hd hb))
  have B2:=Lib.hid (bl_alloc B1.out (.cells #[.bool g,.slice A n c,.int .i64 y] 44))
  have K2:=Lib.hid (kb_alloc (o':=.cells #[.bool g,.slice A n c,.int .i64 y] 44) K1.out)
  have N2:=Lib.hid (kb_new (w:=w1) (o:=.cells #[.bool g,.slice A n c,.int .i64 y] 44) (Below.refl _ _))
  have H2:=Lib.hid (HD.out.below (bl_alloc (Below.refl w1.heap.size w1) (.cells #[.bool g,.slice A n c,.int .i64 y] 44)))
  obtain ⟨w2,hw2⟩:∃ w,w1.alloc (.cells #[.bool g,.slice A n c,.int .i64 y] 44)=w:=⟨_,rfl⟩
  obtain ⟨b2,hb2⟩:∃ b,w1.heap.size=b:=⟨_,rfl⟩
  rw [hw2] at B2 K2 N2 H2
  rw [hb2] at N2
  simp only [hw2,hb2]
  clear hw2 hb2
  have a0:=kb_cell N2.out (i:=0) rfl
  have a1:=kb_cell N2.out (i:=1) rfl
  have a2:=kb_cell N2.out (i:=2) rfl
  have d0:=kb_cell K2.out (i:=0) rfl
  have d1:=kb_cell K2.out (i:=1) rfl
  have d2:=kb_cell K2.out (i:=2) rfl
  have f0:=kb_frozen K2.out 0
  have f1:=kb_frozen K2.out 1
  have f2:=kb_frozen K2.out 2
  go_wp2
  have y0:=rw_setc K2.out 0 (.bool g)
  have y1:=rw_setc y0 1 (.slice A n c)
  have y2:=rw_setc y1 2 (.int .i64 y)
  have z0:=kb_cell y2 (i:=0) rfl
  have z1:=kb_cell y2 (i:=1) rfl
  have z2:=kb_cell y2 (i:=2) rfl
  refine bodyPost_ret (v:=.agg #[.bool g,.slice A n c,.int .i64 y]) (by simp [results,Tryd.results28,go_sem,z0,z1,z2]) rfl ?_
  exact ⟨_,rfl,H2.out.set3 K2.out (fun z h=>by cases h),bl_set (bl_set (bl_set B2.out _ (Nat.le_refl _)) _ (Nat.le_refl _)) _ (Nat.le_refl _)⟩
set_option maxHeartbeats 1000000 in
theorem rtimes_c {W:World} {u v:Value} {k l K K':Nat} {E E' z z':Int} (h:YS W u k K E z) (h':YS W v l K' E' z') (hk:k + l≤256) (hK:K + K'≤13000) (hE:E + E'≤13000) (hE0:0≤E + E') :
    Calls Tryd.prog 27 #[u,v] W (ZY (k + l) (K + K') (E + E') (z * z') W):=by
  have MC:Hid (∀ w,Below W.heap.size W w→Calls Tryd.prog 40 #[u,v] w (YPost (k + l) (K + K') (E + E') (z * z') w)):=Lib.hid (fun w hb=>ymul_s (h.below hb) (h'.below hb) hk hK hE hE0)
  obtain ⟨g,A,n,c,x,rfl⟩:=h.agg
  obtain ⟨g',A',n',c',x',rfl⟩:=h'.agg
  clear h h' hk hK hE hE0
  have Y0:=Lib.hid (yx_new W #[.bool g,.slice A n c,.int .i64 x] #[.bool g',.slice A' n' c',.int .i64 x'])
  have d0:=kb_cell Y0.out.k0 (i:=0) rfl
  have d1:=kb_cell Y0.out.k0 (i:=1) rfl
  have d2:=kb_cell Y0.out.k0 (i:=2) rfl
  have e0:=kb_cell Y0.out.k1 (i:=0) rfl
  have e1:=kb_cell Y0.out.k1 (i:=1) rfl
  have e2:=kb_cell Y0.out.k1 (i:=2) rfl
  go_enter Tryd.func27,Tryd.ntmps27
  go_upto_region 2 with (first
    | (go_at_call 40;(with_reducible refine (MC.out _ Y0.out.b).mono ?_);rintro e w1 ⟨d,rfl,hd,hb⟩;obtain ⟨g2,A2,n2,c2,y,rfl⟩:=hd.agg;have HD:=Lib.hid hd;have Y1:=Lib.hid (Y0.out.then hb);clear hd hb))
  clear d0 d1 d2 e0 e1 e2
  have B2:=Lib.hid (bl_alloc Y1.out.b (.cells #[.bool g2,.slice A2 n2 c2,.int .i64 y] 44))
  have K2:=Lib.hid (kb_alloc (o':=.cells #[.bool g2,.slice A2 n2 c2,.int .i64 y] 44) Y1.out.k2)
  have N2:=Lib.hid (kb_new (w:=w1) (o:=.cells #[.bool g2,.slice A2 n2 c2,.int .i64 y] 44) (Below.refl _ _))
  have H2:=Lib.hid (HD.out.below (bl_alloc (Below.refl w1.heap.size w1) (.cells #[.bool g2,.slice A2 n2 c2,.int .i64 y] 44)))
  obtain ⟨w2,hw2⟩:∃ w,w1.alloc (.cells #[.bool g2,.slice A2 n2 c2,.int .i64 y] 44)=w:=⟨_,rfl⟩
  obtain ⟨b2,hb2⟩:∃ b,w1.heap.size=b:=⟨_,rfl⟩
  rw [hw2] at B2 K2 N2 H2
  rw [hb2] at N2
  simp only [hw2,hb2]
  clear hw2 hb2
  have a0:=kb_cell N2.out (i:=0) rfl
  have a1:=kb_cell N2.out (i:=1) rfl
  have a2:=kb_cell N2.out (i:=2) rfl
  have d0:=kb_cell K2.out (i:=0) rfl
  have d1:=kb_cell K2.out (i:=1) rfl
  have d2:=kb_cell K2.out (i:=2) rfl
  have f0:=kb_frozen K2.out 0
  have f1:=kb_frozen K2.out 1
  have f2:=kb_frozen K2.out 2
  go_wp2
  have y0:=rw_setc K2.out 0 (.bool g2)
  have y1:=rw_setc y0 1 (.slice A2 n2 c2)
  have y2:=rw_setc y1 2 (.int .i64 y)
  have z0:=kb_cell y2 (i:=0) rfl
  have z1:=kb_cell y2 (i:=1) rfl
  have z2:=kb_cell y2 (i:=2) rfl
  refine bodyPost_ret (v:=.agg #[.bool g2,.slice A2 n2 c2,.int .i64 y]) (by simp [results,Tryd.results27,go_sem,z0,z1,z2]) rfl ?_
  have hW:W.heap.size≤W.heap.size + 1 + 1:=by omega
  exact ⟨_,rfl,H2.out.set3 K2.out (fun z h=>by cases h),bl_set (bl_set (bl_set B2.out _ hW) _ hW) _ hW⟩
set_option maxHeartbeats 1000000 in
theorem rcmp_c {W:World} {u v:Value} {k l K:Nat} {E E' z z':Int} (h:YS W u k K E z) (h':YS W v l K E' z') :
    Calls Tryd.prog 26 #[u,v] W fun e w'=>e=.returned (.int .i64 (cmpZ z z'))∧Below W.heap.size W w':=by
  have CC:Hid (∀ w,Below W.heap.size W w→Calls Tryd.prog 39 #[u,v] w fun e w'=>e=.returned (.tuple #[.int .i64 (cmpZ z z'),.int .i64 0])∧Below w.heap.size w w'):=Lib.hid (fun w hb=>ycmp_s (h.below hb) (h'.below hb))
  obtain ⟨g,A,n,c,x,rfl⟩:=h.agg
  obtain ⟨g',A',n',c',x',rfl⟩:=h'.agg
  clear h h'
  have Y0:=Lib.hid (y2_new W #[.bool g,.slice A n c,.int .i64 x] #[.bool g',.slice A' n' c',.int .i64 x'])
  have d0:=kb_cell Y0.out.k0 (i:=0) rfl
  have d1:=kb_cell Y0.out.k0 (i:=1) rfl
  have d2:=kb_cell Y0.out.k0 (i:=2) rfl
  have e0:=kb_cell Y0.out.k1 (i:=0) rfl
  have e1:=kb_cell Y0.out.k1 (i:=1) rfl
  have e2:=kb_cell Y0.out.k1 (i:=2) rfl
  go_enter Tryd.func26,Tryd.ntmps26
  go_wp2_with (first
    | (go_at_call 39;(with_reducible refine (CC.out _ Y0.out.b).mono ?_);rintro e w1 ⟨rfl,hb⟩;have B1:=Lib.hid (bl_then Y0.out.b hb);clear hb))
  go_ret
  exact ⟨rfl,B1.out⟩
end Go.Proofs.YtalhpbilkhdfhaaDoor
