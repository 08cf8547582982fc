import Derived.Test.YtalhpbilkhdfhaaDoorTRTg
import Derived.Laws.CopyOwn
import Derived.Laws.MakeOwn
namespace Go.Proofs.YtalhpbilkhdfhaaDoor
open Go Go.RowKit Nv
open Go.Proofs.YtalhpbilkhdfhaaDoorW.PrintWords (Kd Drawn0 gate_dst)
open XBn
set_option maxRecDepth 100000
set_option linter.unusedSimpArgs false
def RowW (w:World) (g:Nat) (l:List Int):Prop:=w.heap[g]?=some (.cells (l.map (Value.int .u32)).toArray 96 (0,0))∧l.length≤9223372036854775807
theorem RowW.cell {w:World} {g i:Nat} {l:List Int} (h:RowW w g l) (hi:i < l.length):w.cell? ⟨g,i,none⟩=some (.int .u32 l[i]):=kb_cell h.1 (by simp [hi])
theorem RowW.fz {w:World} {g:Nat} {l:List Int} (h:RowW w g l) (i:Nat):w.frozen? ⟨g,i,none⟩=false:=kb_frozen h.1 i
theorem RowW.lt {w:World} {g:Nat} {l:List Int} (h:RowW w g l):g < w.heap.size:=kb_lt h.1
theorem RowW.below {w w':World} {g:Nat} {l:List Int} (h:RowW w g l) (hb:Below w.heap.size w w'):RowW w' g l:=⟨kb_keep hb h.1,h.2⟩
theorem rw_setc {w:World} {g:Nat} {cs:Array Value} {t:TypeId} (h:w.heap[g]?=some (.cells cs t (0,0))) (i:Nat) (u:Value):(w.setCell ⟨g,i,none⟩ u).heap[g]?=some (.cells (cs.setIfInBounds i u) t (0,0)):=by
  simp [World.setCell,Array.getElem?_modify,h]
theorem rw_far {w:World} {g k:Nat} (h:k ≠ g) (i:Nat) (u:Value):(w.setCell ⟨g,i,none⟩ u).heap[k]?=w.heap[k]?:=by
  simp [World.setCell,Array.getElem?_modify,Ne.symm h]
theorem RowW.set {w:World} {g:Nat} {l:List Int} (h:RowW w g l) (i:Nat) (d:Int):RowW (w.setCell ⟨g,i,none⟩ (.int .u32 d)) g (l.set i d):=by
  refine ⟨?_,by rw [List.length_set];exact h.2⟩
  rw [rw_setc h.1]
  congr 2
  apply Array.ext'
  simp [List.map_set]
theorem RowW.far {w:World} {g k:Nat} {l:List Int} (h:RowW w k l) (hne:k ≠ g) (i:Nat) (u:Value):RowW (w.setCell ⟨g,i,none⟩ u) k l:=⟨by rw [rw_far hne];exact h.1,h.2⟩
theorem RowW.C {w:World} {g:Nat} {l:List Int} (h:RowW w g l):Kd.C (Kd.int .u32) w (some ⟨g,0,none⟩) l.length l:=by
  refine ⟨rfl,h.2,fun h0=>⟨_,rfl,fun j p hp=>?_⟩⟩
  obtain ⟨hj,e⟩:=List.getElem?_eq_some_iff.1 hp
  refine ⟨[.int .u32 p],rfl,rfl,fun i u hu=>?_⟩
  have hi:i=0:=by
    have:=(List.getElem?_eq_some_iff.1 hu).1
    simp at this;exact this
  subst hi
  have hu:u=.int .u32 p:=by simpa using hu.symm
  rw [hu,← e]
  have:=h.cell hj
  rw [show (Addr.add ⟨g,0,none⟩ (j * (Kd.int IntKind.u32).sz + 0))=⟨g,j,none⟩ by simp [Addr.add,show (Kd.int IntKind.u32).sz=1 from rfl];intro h;exact h.symm]
  exact this
theorem Wd.cells {w:World} {v:Value} {n:Int} (h:Wd w v n):∃ A c l,v=.slice A l.length c∧l.length≤c∧Nm l∧nv l=n∧(0 < l.length→∃ ad,A=some ad∧∀ j (hj:j < l.length),w.cell? (ad.add j)=some (.int .u32 l[j])):=by
  obtain ⟨A,c,l,rfl,hl,⟨hC,hT⟩,hN,hn⟩:=h
  refine ⟨A,c,l,rfl,hl,hN,hn,fun h0=>?_⟩
  obtain ⟨ad,e,hc⟩:=hC.2.2 h0
  refine ⟨ad,e,fun j hj=>?_⟩
  obtain ⟨cs,_,hK,hcs⟩:=hc j _ (List.getElem?_eq_getElem hj)
  have hK:cs=[.int .u32 l[j]]:=hK
  subst hK
  have:=hcs 0 _ rfl
  rw [show (Kd.int IntKind.u32).sz=1 from rfl] at this
  simpa using this
theorem made_words (n:Nat):madeCells (Value.int .u32 0).cells n=((List.replicate n (0:Int)).map (Value.int .u32)).toArray:=by
  apply Array.ext'
  simp only [madeCells,Value.cells]
  simp
  apply List.ext_getElem (by simp)
  intro i h1 h2
  simp [Nat.mod_one]
theorem kb_cX {w w':World} {a:Addr} {v:Value} (hb:Below w.heap.size w w') (h:w.cell? a=some v):w'.cell? a=some v:=(hb.cell (World.block_lt_of_cell? w _ h)).trans h
theorem over_zeros {l:List Int} {n:Nat} (_h:l.length≤n):splice ((List.replicate n (0:Int)).map (Value.int .u32)) 0 (l.map (Value.int .u32))=(l ++ List.replicate (n - l.length) 0).map (Value.int .u32):=by
  unfold splice
  simp [List.drop_replicate]
theorem nN_app_zeros (l:List Int) (k:Nat) (h:Dg l):Dg (l ++ List.replicate k 0)∧nN (l ++ List.replicate k 0)=nN l:=by
  refine ⟨Dg.app.2 ⟨h,Dg.zeros _⟩,?_⟩
  unfold nN
  rw [nv_app,nv_zeros,Int.mul_zero,Int.add_zero]
set_option maxHeartbeats 2000000 in
theorem low_c {w:World} {x:Nat} (l:List Int) (A:Option Addr) (c:Nat) (hb:IntB w x false (.slice A l.length c)) (hc:0 < l.length→∃ ad,A=some ad∧∀ j (hj:j < l.length),w.cell? (ad.add j)=some (.int .u32 l[j])) (n:Nat) (h1:l.length≤n) (h2:n≤1000002) :
    Calls Tryd.prog 85 #[pt x,.int .i64 n] w fun e w'=>e=.returned (.slice (some ⟨w.heap.size,0,none⟩) n n)∧RowW w' w.heap.size (l ++ List.replicate (n - l.length) 0)∧Below w.heap.size w w':=by
  obtain ⟨i0,hi,hzz⟩:=Option.map_eq_some_iff.1 info96
  simp only [Prod.mk.injEq] at hzz
  obtain ⟨hz0,hz1,hz2⟩:=hzz
  have mk:∀ w:World,(Instr.makeSlice 74 (.int .i64 (n:Int)) (.int .i64 (n:Int))).run Tryd.prog w=.ok (.slice (some ⟨w.heap.size,0,none⟩) n n) (w.alloc (.cells ((List.replicate n (0:Int)).map (Value.int .u32)).toArray 96)):=fun w=>by
    have h:=run_make (P:=Tryd.prog) w 74 96 i0 (.int .u32 0) Tryd.underlying74 hi hz0 .i64 .i64 (n:Int) (n:Int) (by omega) (by omega) (by rw [hz2];omega) (by omega)
    rw [Int.toNat_natCast,hz1,Nat.mul_one,made_words] at h
    exact h
  have c0:=hb.c0
  have c1:=hb.c1
  have HC:=Lib.hid hc
  have KB:=Lib.hid hb
  have B1:=Lib.hid (bl_alloc (Below.refl w.heap.size w) (.cells ((List.replicate n (0:Int)).map (Value.int .u32)).toArray 96))
  have K1:=Lib.hid (kb_new (w:=w) (o:=.cells ((List.replicate n (0:Int)).map (Value.int .u32)).toArray 96) (Below.refl _ _))
  have cc1:=(KB.out.below (bl_alloc (Below.refl w.heap.size w) (.cells ((List.replicate n (0:Int)).map (Value.int .u32)).toArray 96))).c1
  obtain ⟨Z,hZ⟩:∃ Z,((List.replicate n (0:Int)).map (Value.int .u32)).toArray=Z:=⟨_,rfl⟩
  have ZL:Hid (Z.toList=(List.replicate n (0:Int)).map (Value.int .u32)):=Lib.hid (by rw [← hZ])
  rw [hZ] at mk B1 K1 cc1
  clear hc hi hz0 hz1 hz2 hb hZ
  go_enter Tryd.func85,Tryd.ntmps85
  go_upto_region 2 with (fail)
  obtain ⟨w1,hw1⟩:∃ w1,w.alloc (.cells Z 96)=w1:=⟨_,rfl⟩
  rw [hw1] at B1 K1 cc1
  simp only [hw1]
  clear hw1 mk
  have HPOS:Hid (0 < (l.map (Value.int .u32)).length→(some (⟨w.heap.size,0,none⟩:Addr))=some ⟨w.heap.size,0,none⟩∧∃ ad,A=some ad∧∀ j u,(l.map (Value.int .u32))[j]?=some u→w1.cell? (ad.add j)=some u):=Lib.hid (fun h0=>⟨rfl,by
    obtain ⟨ad,e,h⟩:=HC.out (by simpa using h0)
    refine ⟨ad,e,fun j u hu=>?_⟩
    rw [List.getElem?_map] at hu
    obtain ⟨p,hp,rfl⟩:=Option.map_eq_some_iff.1 hu
    obtain ⟨hj,e2⟩:=List.getElem?_eq_some_iff.1 hp
    rw [← e2]
    exact kb_cX B1.out (h j hj)⟩)
  have HONE:Hid (∀ u ∈ l.map (Value.int .u32),u.oneCell'=true):=Lib.hid (fun u hu=>by obtain ⟨y,_,rfl⟩:=List.mem_map.1 hu;rfl)
  have HMIN:Hid ((l.map (Value.int .u32)).length=Nat.min l.length n):=Lib.hid (by simp;exact (Nat.min_eq_left h1).symm)
  have HFIT:Hid (0 + (l.map (Value.int .u32)).length≤Z.toList.length):=Lib.hid (by rw [ZL.out];simp;exact h1)
  have HSZ:Hid ((Tryd.prog.info? 96).map (·.size)=some 1):=Lib.hid (by kernel_rfl)
  have HG:Hid (w1.heap[w.heap.size]?=some (.cells Z.toList.toArray 96 (0,0))):=Lib.hid (by simpa using K1.out)
  go_wp2_with (first
    | ((with_reducible refine gate_dst (N:=15) rfl ?_);go_loud (refine wpList_copy_splice rfl _ _ 74 74 rfl 96 Tryd.underlying74 HSZ.out _ _ n n l.length c rfl rfl w.heap.size 0 Z.toList 96 HG.out (l.map (Value.int .u32)) HMIN.out HPOS.out HFIT.out HONE.out w.heap.size w B1.out (Nat.le_refl _) ?_);intro w2 hg2 hb2;have HB2:=Lib.hid hb2;have c0:=(KB.out.below hb2).c0;clear hb2))
  go_ret
  exact ⟨rfl,⟨by rw [hg2.out,ZL.out,over_zeros h1],by simp;omega⟩,HB2.out⟩
theorem sz1:(Kd.int IntKind.u32).sz=1:=rfl
theorem RowW.R {w:World} {base g:Nat} {l:List Int} (h:RowW w g l) (hb:base≤g):Kd.R (Kd.int .u32) 96 w base (fun k=>k=g) (.slice (some ⟨g,0,none⟩) l.length l.length) l:=by
  refine ⟨fun k hk=>?_,⟨l.map (Value.int .u32),⟨by simp [sz1],Or.inr ⟨g,l.length,_,rfl,hb,h.1,Nat.le_refl _,by unfold maxLen;exact h.2,by simp [sz1],by simp [sz1,List.take_of_length_le]⟩⟩,map_reps l⟩⟩
  simp [Value.ownBlock] at hk
  exact hk.symm
set_option maxHeartbeats 2000000 in
theorem of_c {w0 w:World} {z g:Nat} {u:Int} {r:List Int} (hz:IntAt w0 z u) (hB:Below w0.heap.size w0 w) (hg:w0.heap.size≤g) (hr:RowW w g r) (hd:Dg r) (hn:0 < r.length) (hl:r.length≤1000002) (ht:∀ h:r.length - 1 < r.length,r[r.length - 1] < 2147483648) :
    Calls Tryd.prog 86 #[pt z,.slice (some ⟨g,0,none⟩) r.length r.length] w fun e w'=>e=.returned (pt z)∧IntAt w' z (nv r)∧Bz z w0 w':=by
  obtain ⟨zg,zs,a,hz⟩:=hz.rd
  have hi:r.length - 1 < r.length:=by omega
  have d:=hd.at hi
  have tt:=ht hi
  have cl:=hr.cell hi
  obtain ⟨T,hT⟩:∃ T,r[r.length - 1]=T:=⟨_,rfl⟩
  rw [hT] at d tt cl
  have sh:T / 2147483648=0:=by omega
  have iw:IntKind.i64.wrap ((r.length:Int) - 1)=((r.length - 1:Nat):Int):=by rw [IntKind.wrap_i64];omega
  have ib:((r.length - 1:Nat):Int) < (r.length:Int):=by omega
  have k1:decide ((0:Int) < (r.length:Int))=true:=decide_eq_true (by omega)
  have k2:decide (0 < r.length)=true:=decide_eq_true hn
  obtain ⟨o,h1,h2,h3,h4⟩:=trim_f r hd (by omega) (r.length + 1) (by omega)
  have TC:Hid (Calls Tryd.prog 91 #[.slice (some ⟨g,0,none⟩) r.length r.length] w fun e w'=>∃ v,e=.returned v∧Wd w' v (nv r)∧Below w0.heap.size w0 w'):=Lib.hid ((bignum_trim.calls _ _ _ r o w0 w hB (hr.R hg) h1).mono (fun e w' ⟨v,e1,hR,hb,_⟩=>⟨v,e1,wd_of hR h3 h2,hb⟩))
  have HZ0:=Lib.hid hz
  have hn0:(0:Int)≤((r.length - 1:Nat):Int):=Int.natCast_nonneg _
  clear hr hd hl ht hT h1 h2 h3 h4 hz hB hg
  go_enter Tryd.func86,Tryd.ntmps86
  go_wp2_with (first
    | (go_at_call 91;(with_reducible refine (TC.out).mono ?_);rintro e w1 ⟨v1,rfl,hW,hb⟩;have HW:=Lib.hid hW;have HB:=Lib.hid hb;clear hW hb)
    | (go_at_call 68;refine (give_c (HZ0.out.blk.below HB.out) HZ0.out.wd.sl HW.out false).mono ?_;rintro e w2 ⟨rfl,hI,hz⟩;have HI:=Lib.hid hI;have HZ:=Lib.hid hz;clear hI hz))
  go_ret
  exact ⟨rfl,HI.out,(Bz.of HB.out).trans HZ.out⟩
structure AndL (op:Nat→Nat→Nat) (w0 w:World) (g1 g2:Nat) (la lb r:List Int) (i:Nat):Prop where
  b:Below w0.heap.size w0 w
  r1:RowW w g1 r
  r2:RowW w g2 lb
  dg:Dg r
  len:r.length=la.length
  low:nN (r.take i)=op (nN la) (nN lb) % 4294967296 ^ i
  rest:∀ j (h:j < r.length) (h':j < la.length),i≤j→r[j]=la[j]
theorem AndL.next {op:Nat→Nat→Nat} {w0 w:World} {g1 g2 i d:Nat} {la lb r:List Int} (h:AndL op w0 w g1 g2 la lb r i) (hg:w0.heap.size≤g1) (hne:g2 ≠ g1) (hi:i < r.length) (hd:d=op (nN la) (nN lb) / 4294967296 ^ i % 4294967296) :
    AndL op w0 (w.setCell ⟨g1,i,none⟩ (.int .u32 (d:Int))) g1 g2 la lb (r.set i (d:Int)) (i + 1):=by
  obtain ⟨q1,q2⟩:=nN_set h.dg hi h.low hd
  refine ⟨bl_set h.b _ hg,h.r1.set i d,h.r2.far hne i _,q1,by rw [List.length_set];exact h.len,q2,fun j h1 h2 h3=>?_⟩
  rw [List.getElem_set_ne (by omega)]
  exact h.rest j (by rw [List.length_set] at h1;exact h1) h2 (by omega)
theorem AndL.drew {op:Nat→Nat→Nat} {w0 w:World} {g1 g2 i:Nat} {la lb r:List Int} (h:AndL op w0 w g1 g2 la lb r i):AndL op w0 w.drew g1 g2 la lb r i:=⟨bl_drew h.b,h.r1.below (dr_below _),h.r2.below (dr_below _),h.dg,h.len,h.low,h.rest⟩
theorem pow_B (i:Nat):(4294967296:Nat) ^ i=2 ^ (32 * i):=by rw [show (4294967296:Nat)=2 ^ 32 by decide,← Nat.pow_mul]
theorem and_digit (x y i:Nat):(x / 4294967296 ^ i % 4294967296) &&& (y / 4294967296 ^ i % 4294967296)=(x &&& y) / 4294967296 ^ i % 4294967296:=by
  rw [pow_B,Nat.and_div_two_pow,show (4294967296:Nat)=2 ^ 32 by decide,Nat.and_mod_two_pow]
theorem or_digit (x y i:Nat):(x / 4294967296 ^ i % 4294967296) ||| (y / 4294967296 ^ i % 4294967296)=(x ||| y) / 4294967296 ^ i % 4294967296:=by
  rw [pow_B,Nat.or_div_two_pow,show (4294967296:Nat)=2 ^ 32 by decide,Nat.or_mod_two_pow]
set_option maxHeartbeats 4000000 in
theorem iand_c {w:World} {z x y:Nat} {u v t:Int} (hz:IntAt w z u) (hx:IntAt w x v) (hy:IntAt w y t) (hv:0≤v) (ht:0≤t) (hs:Sm v) (ks:Sm t):Calls Tryd.prog 90 #[pt z,pt x,pt y] w fun e w'=>e=.returned (pt z)∧IntAt w' z ((v.toNat &&& t.toNat:Nat):Int)∧Bz z w w':=by
  obtain ⟨xg,xs,a,hx⟩:=hx.rd
  obtain ⟨yg,ys,b,hy⟩:=hy.rd
  have gx:xg=false:=by
    cases xg
    · rfl
    · exfalso;have h1:=hx.val;have h2:=hx.nz rfl;have h3:=hx.wd.nonneg;unfold sg at h1;simp only [if_true] at h1;omega
  have gy:yg=false:=by
    cases yg
    · rfl
    · exfalso;have h1:=hy.val;have h2:=hy.nz rfl;have h3:=hy.wd.nonneg;unfold sg at h1;simp only [if_true] at h1;omega
  subst gx gy
  have ev:v=a:=hx.val
  have et:t=b:=hy.val
  subst ev et
  have bx:=hx.blk
  have by_:=hy.blk
  obtain ⟨A,cA,l,rfl,hl,hN,hn,hC⟩:=hx.wd.cells
  obtain ⟨B,cB,m,rfl,hm,hM,hm2,hD⟩:=hy.wd.cells
  have ll:=len_of hN (by rw [hn];exact hs)
  have lm:=len_of hM (by rw [hm2];exact ks)
  obtain ⟨n,hnn⟩:∃ n,max l.length m.length + 1=n:=⟨_,rfl⟩
  have n1:l.length≤n:=by omega
  have n2:m.length≤n:=by omega
  have n3:n≤1000002:=by omega
  have hle:l.length≤n - 1:=by omega
  have np:0 < n:=by omega
  have LX:Hid (∀ w',Below w.heap.size w w'→Calls Tryd.prog 85 #[pt x,.int .i64 n] w' fun e w2=>e=.returned (.slice (some ⟨w'.heap.size,0,none⟩) n n)∧RowW w2 w'.heap.size (l ++ List.replicate (n - l.length) 0)∧Below w'.heap.size w' w2):=Lib.hid (fun w' h=>low_c l A cA (bx.below h) (fun h0=>by obtain ⟨ad,e,h2⟩:=hC h0;exact ⟨ad,e,fun j hj=>kb_cX h (h2 j hj)⟩) n n1 n3)
  have LY:Hid (∀ w',Below w.heap.size w w'→Calls Tryd.prog 85 #[pt y,.int .i64 n] w' fun e w2=>e=.returned (.slice (some ⟨w'.heap.size,0,none⟩) n n)∧RowW w2 w'.heap.size (m ++ List.replicate (n - m.length) 0)∧Below w'.heap.size w' w2):=Lib.hid (fun w' h=>low_c m B cB (by_.below h) (fun h0=>by obtain ⟨ad,e,h2⟩:=hD h0;exact ⟨ad,e,fun j hj=>kb_cX h (h2 j hj)⟩) n n2 n3)
  obtain ⟨za,ea⟩:=nN_app_zeros l (n - l.length) hN.1
  obtain ⟨zb,eb⟩:=nN_app_zeros m (n - m.length) hM.1
  have la:(l ++ List.replicate (n - l.length) (0:Int)).length=n:=by simp;omega
  have lb:(m ++ List.replicate (n - m.length) (0:Int)).length=n:=by simp;omega
  have ea2:nN (l ++ List.replicate (n - l.length) (0:Int))=v.toNat:=by rw [ea];unfold nN;rw [hn]
  have eb2:nN (m ++ List.replicate (n - m.length) (0:Int))=t.toNat:=by rw [eb];unfold nN;rw [hm2]
  obtain ⟨L,hL⟩:∃ L,l ++ List.replicate (n - l.length) (0:Int)=L:=⟨_,rfl⟩
  obtain ⟨M,hM'⟩:∃ M,m ++ List.replicate (n - m.length) (0:Int)=M:=⟨_,rfl⟩
  rw [hL] at LX za la ea2
  rw [hM'] at LY zb lb eb2
  have hcase:(l.length < m.length∧wrap64 ((m.length:Int) + 1)=(n:Int)∧IntKind.i64.wrap ((m.length:Int) + 1)=(n:Int)) ∨ (¬ l.length < m.length∧wrap64 ((l.length:Int) + 1)=(n:Int)∧IntKind.i64.wrap ((l.length:Int) + 1)=(n:Int)):=by
    rcases Nat.lt_or_ge l.length m.length with h|h
    · have e:(m.length:Int) + 1=(n:Int):=by omega
      rw [e]
      exact Or.inl ⟨h,by unfold wrap64;omega,by rw [IntKind.wrap_i64];omega⟩
    · have e:(l.length:Int) + 1=(n:Int):=by omega
      rw [e]
      exact Or.inr ⟨by omega,by unfold wrap64;omega,by rw [IntKind.wrap_i64];omega⟩
  have c1:=bx.c1
  have d1:=by_.c1
  have HZ0:=Lib.hid hz
  have BX:=Lib.hid bx
  have BY:=Lib.hid by_
  have HV:=Lib.hid hv
  have HT:=Lib.hid ht
  have ZA:=Lib.hid za
  have ZB:=Lib.hid zb
  have LA:=Lib.hid la
  have LB:=Lib.hid lb
  have EA:=Lib.hid ea2
  have EB:=Lib.hid eb2
  have N3:=Lib.hid n3
  have NP:=Lib.hid np
  have SML:Hid (v.toNat < 4294967296 ^ (n - 1)):=Lib.hid (by
    have h1:=nN_lt hN.1
    have h2:nN l=v.toNat:=by unfold nN;rw [hn]
    rw [h2] at h1
    exact Nat.lt_of_lt_of_le h1 (Nat.pow_le_pow_right (Nat.zero_lt_succ _) hle))
  clear hle np hz hx hy bx by_ hv ht za zb la lb ea eb ea2 eb2 hC hD hN hM hn hm2 hs ks hnn n1 n2 n3 hL hM' hl hm ll lm
  rcases hcase with ⟨hc,wE,wE2⟩|⟨hc,wE,wE2⟩
  all_goals
    go_enter Tryd.func90,Tryd.ntmps90
    go_upto_region 1 with (fail)
    have hS:w.drew.cell? ⟨x,1,none⟩=some (.slice A l.length cA)∧w.drew.cell? ⟨y,1,none⟩=some (.slice B m.length cB):=⟨c1,d1⟩
    refine wp_region_G (g:=12) (S:=fun w'=>w'.cell? ⟨x,1,none⟩=some (.slice A l.length cA)∧w'.cell? ⟨y,1,none⟩=some (.slice B m.length cB)) (by kernel_rfl) ?_
    (refine wpG_take (i:=0) (v:=?_) rfl rfl (by kernel_rfl) (by kernel_rfl) (by kernel_rfl) (fun _ _ _ h=>h) (Or.inl ⟨by rfl,fun w=>?_⟩) (Or.inr hS) ?_;rotate_left;focus (go_simp;first|done|with_reducible rfl|exact rfl));(try simp only [Act.put,zA,zB,zC,zD,zE,zF]);(refine wpG_take (i:=1) (v:=?_) rfl rfl (by kernel_rfl) (by kernel_rfl) (by kernel_rfl) (fun _ _ _ h=>h) (Or.inl ⟨by rfl,fun w=>?_⟩) (Or.inr hS) ?_;rotate_left;focus (go_simp;first|done|with_reducible rfl|exact rfl));(try simp only [Act.put,zA,zB,zC,zD,zE,zF]);(refine wpG_take (i:=2) (v:=?_) rfl rfl (by kernel_rfl) (by kernel_rfl) (by kernel_rfl) (fun _ _ _ h=>h) (Or.inl ⟨by rfl,fun w=>?_⟩) (Or.inr hS) ?_;rotate_left;focus (go_simp;first|done|with_reducible rfl|exact rfl));(try simp only [Act.put,zA,zB,zC,zD,zE,zF])
    (refine wpG_ldC (i:=3) [4,12] (v:=?_) rfl rfl (by kernel_rfl) (by kernel_rfl) (by kernel_rfl) (by kernel_rfl) (fun _ _ _ h=>h) (Or.inl ⟨by rfl,?_⟩) hS ?_;rotate_left;focus (intro w hSw;(try dsimp only at hSw);go_simp;first|done|with_reducible rfl|exact rfl));(try simp only [Act.put,zA,zB,zC,zD,zE,zF])
    (refine wpG_take (i:=4) (v:=?_) rfl rfl (by kernel_rfl) (by kernel_rfl) (by kernel_rfl) (fun _ _ _ h=>h) (Or.inl ⟨by rfl,fun w=>?_⟩) (Or.inr hS) ?_;rotate_left;focus (go_simp;first|done|with_reducible rfl|exact rfl));(try simp only [Act.put,zA,zB,zC,zD,zE,zF]);(refine wpG_take (i:=5) (v:=?_) rfl rfl (by kernel_rfl) (by kernel_rfl) (by kernel_rfl) (fun _ _ _ h=>h) (Or.inl ⟨by rfl,fun w=>?_⟩) (Or.inr hS) ?_;rotate_left;focus (go_simp;first|done|with_reducible rfl|exact rfl));(try simp only [Act.put,zA,zB,zC,zD,zE,zF]);(refine wpG_take (i:=6) (v:=?_) rfl rfl (by kernel_rfl) (by kernel_rfl) (by kernel_rfl) (fun _ _ _ h=>h) (Or.inl ⟨by rfl,fun w=>?_⟩) (Or.inr hS) ?_;rotate_left;focus (go_simp;first|done|with_reducible rfl|exact rfl));(try simp only [Act.put,zA,zB,zC,zD,zE,zF]);(refine wpG_take (i:=7) (v:=?_) rfl rfl (by kernel_rfl) (by kernel_rfl) (by kernel_rfl) (fun _ _ _ h=>h) (Or.inl ⟨by rfl,fun w=>?_⟩) (Or.inr hS) ?_;rotate_left;focus (go_simp;first|done|with_reducible rfl|exact rfl));(try simp only [Act.put,zA,zB,zC,zD,zE,zF])
    (refine wpG_ldC (i:=8) [9,12] (v:=?_) rfl rfl (by kernel_rfl) (by kernel_rfl) (by kernel_rfl) (by kernel_rfl) (fun _ _ _ h=>h) (Or.inl ⟨by rfl,?_⟩) hS ?_;rotate_left;focus (intro w hSw;(try dsimp only at hSw);go_simp;first|done|with_reducible rfl|exact rfl));(try simp only [Act.put,zA,zB,zC,zD,zE,zF])
    (refine wpG_take (i:=9) (v:=?_) rfl rfl (by kernel_rfl) (by kernel_rfl) (by kernel_rfl) (fun _ _ _ h=>h) (Or.inl ⟨by rfl,fun w=>?_⟩) (Or.inr hS) ?_;rotate_left;focus (go_simp;first|done|with_reducible rfl|exact rfl));(try simp only [Act.put,zA,zB,zC,zD,zE,zF]);(refine wpG_take (i:=10) (v:=?_) rfl rfl (by kernel_rfl) (by kernel_rfl) (by kernel_rfl) (fun _ _ _ h=>h) (Or.inl ⟨by rfl,fun w=>?_⟩) (Or.inr hS) ?_;rotate_left;focus (go_simp;first|done|with_reducible rfl|exact rfl));(try simp only [Act.put,zA,zB,zC,zD,zE,zF]);(refine wpG_take (i:=11) (v:=?_) rfl rfl (by kernel_rfl) (by kernel_rfl) (by kernel_rfl) (fun _ _ _ h=>h) (Or.inl ⟨by rfl,fun w=>?_⟩) (Or.inr hS) ?_;rotate_left;focus (go_simp;first|done|with_reducible rfl|exact rfl));(try simp only [Act.put,zA,zB,zC,zD,zE,zF])
    refine wpG_one (i:=12) (by kernel_rfl) rfl (fun K hK=>?_);have HK:=Lib.hid hK;clear hK;go_simp;refine HK.out _ _ (Or.inl (by kernel_rfl)) ?_;clear HK K;(try simp only [Act.put,zA,zB,zC,zD,zE,zF])
    refine wpG_done (by kernel_rfl) ?_ _
    have B1:=Lib.hid (dr_below w)
    obtain ⟨w1,hw1⟩:∃ w1,w.drew=w1:=⟨_,rfl⟩
    rw [hw1] at B1
    simp only [hw1]
    clear hw1 hS c1 d1
    go_upto_region 3 with (first
      | (go_at_call 85;(with_reducible refine (LX.out _ B1.out).mono ?_);rintro e w2 ⟨rfl,hr,hb⟩;have R1:=Lib.hid hr;have B2:=Lib.hid (bl_then B1.out hb);have H1:=Lib.hid (kb_lt hr.1);clear hr hb)
      | (go_at_call 85;(with_reducible refine (LY.out _ B2.out).mono ?_);rintro e w3 ⟨rfl,hr,hb⟩;have R1:=Lib.hid (R1.out.below hb);have R2:=Lib.hid hr;have B3:=Lib.hid (bl_then B2.out hb);clear hr hb))
    have G1:=Lib.hid B1.out.size
    have NE:=Lib.hid (Nat.ne_of_gt H1.out)
    obtain ⟨g1,hg1⟩:∃ g,w1.heap.size=g:=⟨_,rfl⟩
    obtain ⟨g2,hg2⟩:∃ g,w2.heap.size=g:=⟨_,rfl⟩
    rw [hg1] at R1 G1 NE
    rw [hg2] at R2 NE
    simp only [hg1,hg2]
    clear hg1 hg2 LX LY H1 wE wE2 hc
    have P0:Hid (AndL (fun p q=>p &&& q) w w3 g1 g2 L M L 0):=Lib.hid ⟨B3.out,R1.out,R2.out,ZA.out,rfl,by rw [List.take_zero,Nat.pow_zero,Nat.mod_one];unfold nN;rw [nv_nil];rfl,fun j h h' _=>rfl⟩
    clear R1 R2 B1 B2 B3
    go_wp2
    go_loopw [10] (fun v10 wr=>∃ (i:Nat) (r:List Int),v10=.int .i64 i∧i≤n∧Hid (AndL (fun p q=>p &&& q) w wr g1 g2 L M r i)) (fun v10 _=>n - (intOf v10).toNat)
    case atStart=>exact ⟨0,L,rfl,Nat.zero_le _,P0⟩
    case round =>
      obtain ⟨i,r,rfl,hin,hq⟩:=hrel
      by_cases hlt:i < n
      · have l1:decide (i < n)=true:=decide_eq_true hlt
        have hir:i < r.length:=by rw [hq.out.len,LA.out];exact hlt
        have hiL:i < L.length:=by rw [LA.out];exact hlt
        have hiM:i < M.length:=by rw [LB.out];exact hlt
        have e1:=hq.out.rest i hir hiL (Nat.le_refl _)
        have q1:=nN_digit ZA.out hiL
        have q2:=nN_digit ZB.out hiM
        have dA:=ZA.out.at hiL
        have dB:=ZB.out.at hiM
        have ca:=(hq.out.drew).r1.cell hir
        have cb:=(hq.out.drew).r2.cell hiM
        have fa:=(hq.out.drew).r1.fz i
        rw [e1] at ca
        obtain ⟨P,hP⟩:∃ P:Nat,L[i]=(P:Int):=⟨L[i].toNat,(Int.toNat_of_nonneg dA.1).symm⟩
        obtain ⟨Q,hQ⟩:∃ Q:Nat,M[i]=(Q:Int):=⟨M[i].toNat,(Int.toNat_of_nonneg dB.1).symm⟩
        rw [hP] at ca dA q1
        rw [hQ] at cb dB q2
        rw [Int.toNat_natCast] at q1 q2
        have op1:bits .and .u32 (P:Int) (Q:Int)=((P &&& Q:Nat):Int):=u32_and_nat P Q (by omega) (by omega)
        have hd:P &&& Q=(nN L &&& nN M) / 4294967296 ^ i % 4294967296:=by rw [q1,q2];exact and_digit _ _ i
        have NX:=Lib.hid (hq.out.drew.next G1.out NE.out hir hd)
        have i0:(0:Int)≤(i:Int):=Int.natCast_nonneg _
        have i1:(i:Int) < (n:Int):=by omega
        have wi:IntKind.i64.wrap ((i:Int) + 1)=((i + 1:Nat):Int):=by rw [IntKind.wrap_i64];have:=N3.out;omega
        have HLT:=Lib.hid hlt
        clear hq hir hiL hiM e1 q1 q2 dA dB hP hQ hd hlt
        go_upto_region 6 with (fail)
        have hS:wr.drew.cell? ⟨g1,i,none⟩=some (.int .u32 (P:Int))∧wr.drew.cell? ⟨g2,i,none⟩=some (.int .u32 (Q:Int)):=⟨ca,cb⟩
        refine wp_region_G (g:=10) (S:=fun w'=>w'.cell? ⟨g1,i,none⟩=some (.int .u32 (P:Int))∧w'.cell? ⟨g2,i,none⟩=some (.int .u32 (Q:Int))) (by kernel_rfl) ?_
        (refine wpG_take (i:=0) (v:=?_) rfl rfl (by kernel_rfl) (by kernel_rfl) (by kernel_rfl) (fun _ _ _ h=>h) (Or.inl ⟨by rfl,fun w=>?_⟩) (Or.inr hS) ?_;rotate_left;focus (go_simp;first|done|with_reducible rfl|exact rfl));(try simp only [Act.put,zA,zB,zC,zD,zE,zF]);(refine wpG_take (i:=1) (v:=?_) rfl rfl (by kernel_rfl) (by kernel_rfl) (by kernel_rfl) (fun _ _ _ h=>h) (Or.inl ⟨by rfl,fun w=>?_⟩) (Or.inr hS) ?_;rotate_left;focus (go_simp;first|done|with_reducible rfl|exact rfl));(try simp only [Act.put,zA,zB,zC,zD,zE,zF]);(refine wpG_take (i:=2) (v:=?_) rfl rfl (by kernel_rfl) (by kernel_rfl) (by kernel_rfl) (fun _ _ _ h=>h) (Or.inl ⟨by rfl,fun w=>?_⟩) (Or.inr hS) ?_;rotate_left;focus (go_simp;first|done|with_reducible rfl|exact rfl));(try simp only [Act.put,zA,zB,zC,zD,zE,zF])
        (refine wpG_ldC (i:=3) [8,10] (v:=?_) rfl rfl (by kernel_rfl) (by kernel_rfl) (by kernel_rfl) (by kernel_rfl) (fun _ _ _ h=>h) (Or.inl ⟨by rfl,?_⟩) hS ?_;rotate_left;focus (intro w hSw;(try dsimp only at hSw);go_simp;first|done|with_reducible rfl|exact rfl));(try simp only [Act.put,zA,zB,zC,zD,zE,zF])
        (refine wpG_take (i:=4) (v:=?_) rfl rfl (by kernel_rfl) (by kernel_rfl) (by kernel_rfl) (fun _ _ _ h=>h) (Or.inl ⟨by rfl,fun w=>?_⟩) (Or.inr hS) ?_;rotate_left;focus (go_simp;first|done|with_reducible rfl|exact rfl));(try simp only [Act.put,zA,zB,zC,zD,zE,zF]);(refine wpG_take (i:=5) (v:=?_) rfl rfl (by kernel_rfl) (by kernel_rfl) (by kernel_rfl) (fun _ _ _ h=>h) (Or.inl ⟨by rfl,fun w=>?_⟩) (Or.inr hS) ?_;rotate_left;focus (go_simp;first|done|with_reducible rfl|exact rfl));(try simp only [Act.put,zA,zB,zC,zD,zE,zF]);(refine wpG_take (i:=6) (v:=?_) rfl rfl (by kernel_rfl) (by kernel_rfl) (by kernel_rfl) (fun _ _ _ h=>h) (Or.inl ⟨by rfl,fun w=>?_⟩) (Or.inr hS) ?_;rotate_left;focus (go_simp;first|done|with_reducible rfl|exact rfl));(try simp only [Act.put,zA,zB,zC,zD,zE,zF])
        (refine wpG_ldC (i:=7) [8,10] (v:=?_) rfl rfl (by kernel_rfl) (by kernel_rfl) (by kernel_rfl) (by kernel_rfl) (fun _ _ _ h=>h) (Or.inl ⟨by rfl,?_⟩) hS ?_;rotate_left;focus (intro w hSw;(try dsimp only at hSw);go_simp;first|done|with_reducible rfl|exact rfl));(try simp only [Act.put,zA,zB,zC,zD,zE,zF])
        (refine wpG_take (i:=8) (v:=?_) rfl rfl (by kernel_rfl) (by kernel_rfl) (by kernel_rfl) (fun _ _ _ h=>h) (Or.inl ⟨by rfl,fun w=>?_⟩) (Or.inr hS) ?_;rotate_left;focus (go_simp;first|done|with_reducible rfl|exact rfl));(try simp only [Act.put,zA,zB,zC,zD,zE,zF]);(refine wpG_take (i:=9) (v:=?_) rfl rfl (by kernel_rfl) (by kernel_rfl) (by kernel_rfl) (fun _ _ _ h=>h) (Or.inl ⟨by rfl,fun w=>?_⟩) (Or.inr hS) ?_;rotate_left;focus (go_simp;first|done|with_reducible rfl|exact rfl));(try simp only [Act.put,zA,zB,zC,zD,zE,zF])
        try simp only [op1]
        refine wpG_one (i:=10) (by kernel_rfl) rfl (fun K hK=>?_);have HK:=Lib.hid hK;clear hK;go_simp;refine HK.out _ _ (Or.inl (by kernel_rfl)) ?_;clear HK K;(try simp only [Act.put,zA,zB,zC,zD,zE,zF])
        refine wpG_done (by kernel_rfl) ?_ _
        go_wp2
        go_roundw
        case rel=>exact ⟨i + 1,_,by go_num,by have:=HLT.out;omega,NX⟩
        case measure=>have:=HLT.out;simp [intOf];omega
      · have l1:decide (i < n)=false:=decide_eq_false hlt
        have hin2:i=n:=by omega
        subst hin2
        have hlen:r.length=i:=by rw [hq.out.len,LA.out]
        have hp:0 < r.length:=by rw [hlen];exact NP.out
        have hr:=hq.out.r1
        have tot:=hq.out.low
        rw [← hlen,List.take_length] at tot
        have hX:nN L &&& nN M < 4294967296 ^ r.length:=by
          refine Nat.lt_of_le_of_lt Nat.and_le_left ?_
          have:=nN_lt ZA.out
          rw [LA.out] at this
          rw [hlen];exact this
        rw [Nat.mod_eq_of_lt hX,EA.out,EB.out] at tot
        have OC:Hid (Calls Tryd.prog 86 #[pt z,.slice (some ⟨g1,0,none⟩) r.length r.length] wr fun e w'=>e=.returned (pt z)∧IntAt w' z (nv r)∧Bz z w w'):=Lib.hid (of_c HZ0.out hq.out.b G1.out hr hq.out.dg hp (by rw [hlen];exact N3.out) (fun h=>by
          have hd:=nN_digit hq.out.dg h
          rw [tot] at hd
          have hsm:v.toNat &&& t.toNat < 4294967296 ^ (r.length - 1):=by
            refine Nat.lt_of_le_of_lt Nat.and_le_left ?_
            rw [hlen];exact SML.out
          rw [Nat.div_eq_of_lt hsm] at hd
          have:=hq.out.dg.at h
          omega))
        rw [hlen] at OC
        have RV:Hid (nv r=((v.toNat &&& t.toNat:Nat):Int)):=Lib.hid ((nN_of_nv hq.out.dg).2 tot)
        clear hq hlt hr tot hX hp hlen
        go_wp2_with (go_at_call 86;(with_reducible refine (OC.out).mono ?_);rintro e w4 ⟨rfl,hI,hz⟩;have HI:=Lib.hid hI;have HZ:=Lib.hid hz;clear hI hz)
        go_ret
        exact ⟨rfl,by rw [← RV.out];exact HI.out,HZ.out⟩
end Go.Proofs.YtalhpbilkhdfhaaDoor
