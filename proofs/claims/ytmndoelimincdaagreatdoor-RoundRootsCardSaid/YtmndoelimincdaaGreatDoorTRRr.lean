import Derived.Test.YtmndoelimincdaaGreatDoorTRRp
import Derived.Test.YtmndoelimincdaaGreatDoorTRRm
import Derived.Test.YtmndoelimincdaaGreatDoorTRRn
import Derived.Test.YtmndoelimincdaaGreatDoorTRRo
import Derived.Test.YtmndoelimincdaaGreatDoorTRRq
import Derived.Test.YtmndoelimincdaaGreatDoorTRRh
import Derived.Test.YtmndoelimincdaaGreatDoorTRRg
import Derived.Test.YtmndoelimincdaaGreatDoorTRRk
import Derived.Test.YtmndoelimincdaaGreatDoorTRRl
namespace Go.Proofs.YtmndoelimincdaaGreatDoor
open Go Go.RowKit Nv
open Go.Proofs.YtmndoelimincdaaGreatDoorW.PrintWords (Kd)
open XRf
set_option maxRecDepth 100000
def Ld (w:World) (v:Value) (n:Int):Prop:=∃ A c l,v=.slice A l.length c∧l.length≤c∧Kd.C (Kd.int .u64) w A l.length l∧Nl l∧lv l=n
def Sl (n:Int):Prop:=n < ls 1000000
theorem llen_of {l:List Int} (h:Nl l) (hs:Sl (lv l)):l.length≤1000000:=h.len hs
theorem Ld.below {w w1:World} {v:Value} {n:Int} (h:Ld w v n) (hb:Below w.heap.size w w1):Ld w1 v n:=by
  obtain ⟨A,c,l,rfl,hl,hC,hN,hn⟩:=h
  exact ⟨A,c,l,rfl,hl,Kd.C_below hC hb,hN,hn⟩
theorem Ld.nonneg {w:World} {v:Value} {n:Int} (h:Ld w v n):0≤n:=by
  obtain ⟨A,c,l,rfl,hl,hC,hN,rfl⟩:=h
  exact lv_nonneg hN.1
theorem Ld.slice {w:World} {v:Value} {n:Int} (h:Ld w v n):∃ A m c,v=.slice A m c:=by
  obtain ⟨A,c,l,rfl,_⟩:=h
  exact ⟨A,_,c,rfl⟩
def Lo (w:World) (B:Nat) (v:Value) (n:Int):Prop:=∃ l,w.ownsRow B 38 1 v l.length (Go.Proofs.YtmndoelimincdaaGreatDoorW.PrintWords.encs (Value.int .u64) l)∧Nl l∧lv l=n
def LPost (n:Int) (w:World) (e:Ending) (w':World):Prop:=∃ v,e=.returned v∧Lo w' w.heap.size v n∧Below w.heap.size w w'
theorem Lo.ld {w:World} {B:Nat} {v:Value} {n:Int} (h:Lo w B v n):Ld w v n:=by
  obtain ⟨l,ho,hN,hn⟩:=h
  obtain ⟨A,c,e,hl,hr⟩:=Go.Proofs.YtmndoelimincdaaGreatDoorW.PrintWords.own_reads_of_le (enc:=Value.int .u64) (d:=(0:Int)) ho
  exact ⟨A,c,l,e,hl,Kd.C_of_reads hr,hN,hn⟩
theorem Lo.move {w w1:World} {B:Nat} {v:Value} {n:Int} (h:Lo w B v n) (hm:∀ k,v.ownBlock=some k→w1.heap[k]?=w.heap[k]?):Lo w1 B v n:=by
  obtain ⟨l,ho,hN,hn⟩:=h
  exact ⟨l,Go.Proofs.YtmndoelimincdaaGreatDoorW.PrintWords.own_move ho hm,hN,hn⟩
theorem Lo.ge {w:World} {B:Nat} {v:Value} {n:Int} (h:Lo w B v n) (k:Nat) (hk:v.ownBlock=some k):B≤k:=by
  obtain ⟨l,ho,hN,hn⟩:=h
  exact Go.Proofs.YtmndoelimincdaaGreatDoorW.PrintWords.own_base ho k hk
theorem lo_of {w:World} {b:Nat} {ok:Nat→Prop} {v:Value} {r:List Int} {n:Int} (h:Kd.R (Kd.int .u64) 38 w b ok v r) (hN:Nl r) (hn:lv r=n):Lo w b v n:=⟨r,Kd.own_of_R h,hN,hn⟩
theorem ld_of {w:World} {b:Nat} {ok:Nat→Prop} {v:Value} {r:List Int} {n:Int} (h:Kd.R (Kd.int .u64) 38 w b ok v r) (hN:Nl r) (hn:lv r=n):Ld w v n:=by
  obtain ⟨A,c,rfl,hl,hC⟩:=Kd.R_reads h
  exact ⟨A,c,r,rfl,hl,hC,hN,hn⟩
theorem natOf_d (x:Nat) (hx:x < 18446744073709551616) (w:World):Calls Tryz.prog 105 #[.int .u64 x] w (LPost x w):=by
  obtain ⟨r,h1,h2,h3,h4⟩:=natOf_f x hx 10 (by omega)
  refine (girderref00_NatOf.calls 10 x r w h1).mono ?_
  rintro e w' ⟨v,rfl,hR,hb⟩
  exact ⟨v,rfl,lo_of hR h3 h2,hb⟩
theorem up_d {w:World} {v:Value} {a:Int} (h:Ld w v a) (hs:Sl a) (n:Nat) (hn:n≤1000000000):Calls Tryz.prog 93 #[v,.int .i64 n] w (LPost (a * 2 ^ n) w):=by
  obtain ⟨A,c,l,rfl,hl,hC,hN,rfl⟩:=h
  have hlen:=llen_of hN hs
  obtain ⟨r,h1,h2,h3⟩:=natUp_f l hN.1 n (by omega) (by omega)
  refine (girderref00_NatUp.calls _ A c l n r w hC hl h1).mono ?_
  rintro e w' ⟨v,rfl,hR,hb⟩
  exact ⟨v,rfl,lo_of hR h3 h2,hb⟩
theorem add_d {w:World} {u v:Value} {a b:Int} (h:Ld w u a) (k:Ld w v b) (hs:Sl a) (ks:Sl b):Calls Tryz.prog 94 #[u,v] w (LPost (a + b) w):=by
  obtain ⟨A,c,l,rfl,hl,hC,hN,rfl⟩:=h
  obtain ⟨B,d,m,rfl,km,kC,kN,rfl⟩:=k
  have hlen:=llen_of hN hs
  have klen:=llen_of kN ks
  obtain ⟨r,h1,h2,h3⟩:=natAdd_f l m hN.1 kN.1 (by omega) (by omega)
  refine (girderref00_NatAdd.calls _ A c l B d m r w hC hl kC km h1).mono ?_
  rintro e w' ⟨v,rfl,hR,hb⟩
  exact ⟨v,rfl,lo_of hR h3 h2,hb⟩
theorem sub_d {w:World} {u v:Value} {a b:Int} (h:Ld w u a) (k:Ld w v b) (hs:Sl a) (hle:b≤a):Calls Tryz.prog 96 #[u,v] w (LPost (a - b) w):=by
  obtain ⟨A,c,l,rfl,hl,hC,hN,rfl⟩:=h
  obtain ⟨B,d,m,rfl,km,kC,kN,rfl⟩:=k
  have hlen:=llen_of hN hs
  have klen:=llen_of kN (show Sl (lv m) by unfold Sl at *;omega)
  obtain ⟨r,h1,h2,h3⟩:=natSub_f l m hN.1 kN.1 (by omega) (by omega) hle
  refine (girderref00_NatSub.calls _ A c l B d m r w hC hl kC km h1).mono ?_
  rintro e w' ⟨v,rfl,hR,hb⟩
  exact ⟨v,rfl,lo_of hR h3 h2,hb⟩
theorem cmp_d {w:World} {u v:Value} {a b:Int} (h:Ld w u a) (k:Ld w v b) (hs:Sl a) (ks:Sl b):Calls Tryz.prog 95 #[u,v] w fun e w'=>e=.returned (.int .i64 (if a < b then -1 else if b < a then 1 else 0))∧Below w.heap.size w w':=by
  obtain ⟨A,c,l,rfl,hl,hC,hN,rfl⟩:=h
  obtain ⟨B,d,m,rfl,km,kC,kN,rfl⟩:=k
  have hlen:=llen_of hN hs
  have klen:=llen_of kN ks
  exact girderref00_NatCmp.calls _ A c l B d m _ w hC hl kC km (natCmp_f l m hN.1 kN.1 (by omega) (by omega))
def Nu (w:World) (v:Value) (g:Bool) (m e:Int):Prop:=∃ u,v=.agg #[.bool g,u,.int .i64 e]∧Ld w u m
theorem Nu.below {w w1:World} {v:Value} {g:Bool} {m e:Int} (h:Nu w v g m e) (hb:Below w.heap.size w w1):Nu w1 v g m e:=by
  obtain ⟨u,rfl,hu⟩:=h
  exact ⟨u,rfl,hu.below hb⟩
def NumPost (g:Bool) (m x:Int) (w:World) (e:Ending) (w':World):Prop:=∃ v,e=.returned v∧Nu w' v g m x∧Below w.heap.size w w'
theorem times_d {w:World} {u v:Value} {g g':Bool} {m m' x x':Int} (h:Nu w u g m x) (k:Nu w v g' m' x') (hs:Sl m) (ks:Sl m') (hx:-1000000000≤x∧x≤1000000000) (kx:-1000000000≤x'∧x'≤1000000000) :
    Calls Tryz.prog 45 #[u,v] w (NumPost (g != g') (m * m') (x + x') w):=by
  obtain ⟨u,rfl,A,c,l,rfl,hl,hC,hN,rfl⟩:=h
  obtain ⟨v,rfl,B,d,l',rfl,kl,kC,kN,rfl⟩:=k
  have hlen:=llen_of hN hs
  have klen:=llen_of kN ks
  obtain ⟨r,h1,h2,h3⟩:=natMul_f l l' hN.1 kN.1 (by omega) (by omega)
  have hw:wrap64 (x + x')=x + x':=by unfold wrap64;omega
  refine (girderref00_Times.calls K0 g A c l x g' B d l' x' (g != g') r (x + x') w hC hl kC kl (by unfold girderref00_Times.f;rw [h1,hw];rfl)).mono ?_
  rintro e w' ⟨v,rfl,hR,hb⟩
  exact ⟨_,rfl,⟨v,rfl,ld_of hR h3 h2⟩,hb⟩
def zeroB (m:Int):Bool:=decide (m=0)
theorem zero_d {w:World} {u:Value} {g:Bool} {m x:Int} (h:Nu w u g m x) (hs:Sl m) :
    Calls Tryz.prog 92 #[u] w fun e w'=>e=.returned (.bool (zeroB m))∧Below w.heap.size w w':=by
  obtain ⟨u,rfl,A,c,l,rfl,hl,hC,hN,rfl⟩:=h
  have hlen:=llen_of hN hs
  obtain ⟨r,h1,h2,h3⟩:=natBits_f l hN.1 (by omega)
  refine girderref00_Num_Zero.calls K0 g A c l x _ w hC hl ?_
  unfold girderref00_Num_Zero.f
  rw [h1,Option.bind_some]
  congr 1
  unfold zeroB
  rw [Bool.eq_iff_iff];simp [h2]
def sgnB (g:Bool) (m:Int):Int:=if m=0 then 0 else if g=true then -1 else 1
theorem sign_d {w:World} {u:Value} {g:Bool} {m x:Int} (h:Nu w u g m x) (hs:Sl m) :
    Calls Tryz.prog 56 #[u] w fun e w'=>e=.returned (.int .i64 (sgnB g m))∧Below w.heap.size w w':=by
  obtain ⟨u,rfl,A,c,l,rfl,hl,hC,hN,rfl⟩:=h
  have hlen:=llen_of hN hs
  obtain ⟨r,h1,h2,h3⟩:=natBits_f l hN.1 (by omega)
  refine girderref00_Num_Sign.calls K0 g A c l x _ w hC hl ?_
  unfold girderref00_Num_Sign.f girderref00_Num_Zero.f
  rw [h1,Option.bind_some,Option.bind_some]
  unfold sgnB
  by_cases h0:lv l=0
  · rw [if_pos (by simpa using h2.2 h0),if_pos h0]
  · rw [if_neg (by simpa using fun e=>h0 (h2.1 e)),if_neg h0]
    cases g <;> rfl
end Go.Proofs.YtmndoelimincdaaGreatDoor
namespace Go.Proofs.YtmndoelimincdaaGreatDoor
open Go Go.RowKit Nv
open Go.Proofs.YtmndoelimincdaaGreatDoorW.PrintWords (Kd)
set_option maxRecDepth 100000
set_option linter.unusedSimpArgs false
abbrev nilN:Obj:=.cells #[.bool false,.slice none 0 0,.int .i64 0] 53
theorem hp_set {w:World} {g:Nat} {cs:Array Value} {t:TypeId} (h:w.heap[g]?=some (.cells cs t (0,0))) (i:Nat) (u:Value):(w.setCell ⟨g,i,none⟩ u).heap[g]?=some (.cells (cs.setIfInBounds i u) t (0,0)):=by
  simp [World.setCell,Array.getElem?_modify,h]
theorem hp_other {w:World} {g k:Nat} (h:k ≠ g) (i:Nat) (u:Value):(w.setCell ⟨g,i,none⟩ u).heap[k]?=w.heap[k]?:=by
  simp [World.setCell,Array.getElem?_modify,Ne.symm h]
theorem minus_d {W:World} {u:Value} {g:Bool} {m x:Int} (h:Nu W u g m x):Calls Tryz.prog 104 #[u] W (NumPost (!g) m x W):=by
  obtain ⟨u,rfl,A,c,l,rfl,hl,hC,hN,rfl⟩:=h
  have HL:Hid (Ld W (.slice A l.length c) (lv l)):=Lib.hid ⟨A,c,l,rfl,hl,hC,hN,rfl⟩
  clear hl hC hN
  go_enter Tryz.func104,Tryz.ntmps104
  go_wp2
  refine bodyPost_ret (v:=.agg #[.bool (!g),.slice A l.length c,.int .i64 x]) (by simp [results,Tryz.results104,go_sem]) rfl ?_
  exact ⟨_,rfl,⟨_,rfl,HL.out.below (by repeat' (first|(with_reducible exact Below.refl _ _)|(with_reducible refine bl_alloc ?_ _)|(with_reducible refine bl_drewN ?_ _)|(with_reducible refine bl_drew ?_)|(with_reducible refine bl_set ?_ _ (by simp))))⟩,by repeat' (first|(with_reducible exact Below.refl _ _)|(with_reducible refine bl_alloc ?_ _)|(with_reducible refine bl_drewN ?_ _)|(with_reducible refine bl_drew ?_)|(with_reducible refine bl_set ?_ _ (by simp)))⟩
end Go.Proofs.YtmndoelimincdaaGreatDoor
namespace Go.Proofs.YtmndoelimincdaaGreatDoor
open Go Go.RowKit Nv
open Go.Proofs.YtmndoelimincdaaGreatDoorW.PrintWords (Kd)
set_option maxRecDepth 100000
set_option linter.unusedSimpArgs false
structure BX (W w:World) (h:Nat) (c0 c1:Array Value):Prop where
  b:Below W.heap.size W w
  g:W.heap.size≤h
  k0:w.heap[h]?=some (.cells c0 53 (0,0))
  k1:w.heap[h + 1]?=some (.cells c1 53 (0,0))
  k2:w.heap[h + 1 + 1]?=some (.cells #[.bool false,.slice none 0 0,.int .i64 0] 53 (0,0))
theorem BX.then {W w w':World} {h:Nat} {c0 c1:Array Value} (k:BX W w h c0 c1) (hb:Below w.heap.size w w'):BX W w' h c0 c1:=⟨bl_then k.b hb,k.g,kb_keep hb k.k0,kb_keep hb k.k1,kb_keep hb k.k2⟩
theorem BX.drew {W w:World} {h:Nat} {c0 c1:Array Value} (k:BX W w h c0 c1):BX W w.drew h c0 c1:=⟨bl_drew k.b,k.g,k.k0,k.k1,k.k2⟩
theorem bx_new (W:World) (c0 c1:Array Value):BX W (((W.alloc (.cells c0 53)).alloc (.cells c1 53)).alloc nilN) W.heap.size c0 c1:=by
  refine ⟨bl_alloc (bl_alloc (bl_alloc (Below.refl _ _) _) _) _,Nat.le_refl _,kb_alloc (kb_alloc (kb_new (Below.refl _ _))),kb_alloc ?_,?_⟩
  · have:=kb_new (w:=W.alloc (.cells c0 53)) (o:=.cells c1 53) (Below.refl _ _)
    simpa using this
  · have:=kb_new (w:=(W.alloc (.cells c0 53)).alloc (.cells c1 53)) (o:=nilN) (Below.refl _ _)
    simpa using this
abbrev finW (w:World) (h:Nat) (g:Bool) (v:Value) (x:Int):World:=((w.setCell ⟨h + 1 + 1,0,none⟩ (.bool g)).setCell ⟨h + 1 + 1,1,none⟩ v).setCell ⟨h + 1 + 1,2,none⟩ (.int .i64 x)
theorem BX.fin {W w:World} {h:Nat} {c0 c1:Array Value} (k:BX W w h c0 c1) (g:Bool) (v:Value) (x:Int) :
    (finW w h g v x).cell? ⟨h + 1 + 1,0,none⟩=some (.bool g)∧(finW w h g v x).cell? ⟨h + 1 + 1,1,none⟩=some v∧(finW w h g v x).cell? ⟨h + 1 + 1,2,none⟩=some (.int .i64 x)∧Below W.heap.size W (finW w h g v x):=by
  have z:=hp_set (hp_set (hp_set k.k2 0 (.bool g)) 1 v) 2 (.int .i64 x)
  have hg:=k.g
  exact ⟨kb_cell z (i:=0) rfl,kb_cell z (i:=1) rfl,kb_cell z (i:=2) rfl,bl_set (bl_set (bl_set k.b _ (show W.heap.size≤h + 1 + 1 by omega)) _ (show W.heap.size≤h + 1 + 1 by omega)) _ (show W.heap.size≤h + 1 + 1 by omega)⟩
theorem BX.lo {W w:World} {h:Nat} {c0 c1:Array Value} (_:BX W w h c0 c1) {b:Nat} (hb:h + 1 + 1 < b) (g:Bool) {v:Value} {n x:Int} (hv:Lo w b v n):Ld (finW w h g v x) v n:=by
  refine (hv.move (fun j hj=>?_)).ld
  have:=hv.ge j hj
  rw [hp_other (by omega),hp_other (by omega),hp_other (by omega)]
def plusR (g:Bool) (m x:Int) (g':Bool) (m' x':Int):Bool × Int × Int :=
  if m=0 then (g',m',x') else if m'=0 then (g,m,x) else
  if g=g' then (g,m + m' * 2 ^ (x' - x).toNat,x) else if m' * 2 ^ (x' - x).toNat≤m then (g,m - m' * 2 ^ (x' - x).toNat,x) else (g',m' * 2 ^ (x' - x).toNat - m,x)
def PPost (r:Bool × Int × Int) (w:World) (e:Ending) (w':World):Prop:=NumPost r.1 r.2.1 r.2.2 w e w'
set_option maxHeartbeats 8000000 in
theorem plus1 {W:World} {u v:Value} {g g':Bool} {m m' x x':Int} (h:Nu W u g m x) (k:Nu W v g' m' x') (hs:Sl m) (ks:Sl m') (kb:Sl (m' * 2 ^ (x' - x).toNat)) (hx:-1000000≤x) (kx:x'≤1000000) (hle:m ≠ 0→m' ≠ 0→x≤x') :
    Calls Tryz.prog 55 #[u,v] W (PPost (plusR g m x g' m' x') W):=by
  have ZX:Hid (∀ w,Below W.heap.size W w→Calls Tryz.prog 92 #[u] w fun e w'=>e=.returned (.bool (zeroB m))∧Below w.heap.size w w'):=Lib.hid (fun w hb=>zero_d (h.below hb) hs)
  have ZY:Hid (∀ w,Below W.heap.size W w→Calls Tryz.prog 92 #[v] w fun e w'=>e=.returned (.bool (zeroB m'))∧Below w.heap.size w w'):=Lib.hid (fun w hb=>zero_d (k.below hb) ks)
  have HU:=Lib.hid h
  have HV:=Lib.hid k
  have m0:0≤m:=by obtain ⟨_,_,h1⟩:=h;exact h1.nonneg
  have m0':0≤m':=by obtain ⟨_,_,h1⟩:=k;exact h1.nonneg
  obtain ⟨u,rfl,A,c,l,rfl,hl,hC,hN,rfl⟩:=h
  obtain ⟨v,rfl,B,d,l',rfl,kl,kC,kN,rfl⟩:=k
  have DX:Hid (Ld W (.slice A l.length c) (lv l)):=Lib.hid ⟨A,c,l,rfl,hl,hC,hN,rfl⟩
  have DY:Hid (Ld W (.slice B l'.length d) (lv l')):=Lib.hid ⟨B,d,l',rfl,kl,kC,kN,rfl⟩
  clear hl hC hN kl kC kN
  obtain ⟨M,hM⟩:∃ M,lv l=M:=⟨_,rfl⟩
  obtain ⟨M',hM'⟩:∃ M,lv l'=M:=⟨_,rfl⟩
  rw [hM] at DX HU ZX hs m0 hle ⊢
  rw [hM'] at DY HV ZY ks kb m0' hle ⊢
  clear hM hM'
  have B0:=Lib.hid (bx_new W #[.bool g,.slice A l.length c,.int .i64 x] #[.bool g',.slice B l'.length d,.int .i64 x'])
  unfold plusR
  by_cases h1:M=0
  · rw [if_pos h1]
    have q1:zeroB M=true:=decide_eq_true h1
    rw [q1] at ZX
    clear q1 h1
    have b0:=B0
    have da0:=kb_cell b0.out.k0 (i:=0) rfl;have da1:=kb_cell b0.out.k0 (i:=1) rfl;have da2:=kb_cell b0.out.k0 (i:=2) rfl;have db0:=kb_cell b0.out.k1 (i:=0) rfl;have db1:=kb_cell b0.out.k1 (i:=1) rfl;have db2:=kb_cell b0.out.k1 (i:=2) rfl;have dc0:=kb_cell b0.out.k2 (i:=0) rfl;have dc1:=kb_cell b0.out.k2 (i:=1) rfl;have dc2:=kb_cell b0.out.k2 (i:=2) rfl;have fr0:=kb_frozen b0.out.k2 0;have fr1:=kb_frozen b0.out.k2 1;have fr2:=kb_frozen b0.out.k2 2
    clear b0
    go_enter Tryz.func55,Tryz.ntmps55
    go_wp2_with (first
      | (go_at_call 92;(with_reducible (first|refine (ZX.out _ B0.out.b).mono ?_|refine (ZY.out _ B0.out.b).mono ?_));rintro e w1 ⟨rfl,hb⟩;have B0:=Lib.hid (B0.out.then hb);have da0:=kb_cell B0.out.k0 (i:=0) rfl;have da1:=kb_cell B0.out.k0 (i:=1) rfl;have da2:=kb_cell B0.out.k0 (i:=2) rfl;have db0:=kb_cell B0.out.k1 (i:=0) rfl;have db1:=kb_cell B0.out.k1 (i:=1) rfl;have db2:=kb_cell B0.out.k1 (i:=2) rfl;have dc0:=kb_cell B0.out.k2 (i:=0) rfl;have dc1:=kb_cell B0.out.k2 (i:=1) rfl;have dc2:=kb_cell B0.out.k2 (i:=2) rfl;have fr0:=kb_frozen B0.out.k2 0;have fr1:=kb_frozen B0.out.k2 1;have fr2:=kb_frozen B0.out.k2 2;clear hb))
    obtain ⟨z0,z1,z2,z3⟩:=B0.out.fin g' (.slice B l'.length d) x'
    refine bodyPost_ret (v:=.agg #[.bool g',(.slice B l'.length d),.int .i64 x']) (by simp [results,Tryz.results55,go_sem,z0,z1,z2]) rfl ?_
    exact ⟨_,rfl,⟨_,rfl,DY.out.below z3⟩,z3⟩
  · rw [if_neg h1]
    have q1:zeroB M=false:=decide_eq_false h1
    rw [q1] at ZX
    clear q1
    by_cases h2:M'=0
    · rw [if_pos h2]
      have q2:zeroB M'=true:=decide_eq_true h2
      rw [q2] at ZY
      clear q2
      have b0:=B0
      have da0:=kb_cell b0.out.k0 (i:=0) rfl;have da1:=kb_cell b0.out.k0 (i:=1) rfl;have da2:=kb_cell b0.out.k0 (i:=2) rfl;have db0:=kb_cell b0.out.k1 (i:=0) rfl;have db1:=kb_cell b0.out.k1 (i:=1) rfl;have db2:=kb_cell b0.out.k1 (i:=2) rfl;have dc0:=kb_cell b0.out.k2 (i:=0) rfl;have dc1:=kb_cell b0.out.k2 (i:=1) rfl;have dc2:=kb_cell b0.out.k2 (i:=2) rfl;have fr0:=kb_frozen b0.out.k2 0;have fr1:=kb_frozen b0.out.k2 1;have fr2:=kb_frozen b0.out.k2 2
      clear b0
      go_enter Tryz.func55,Tryz.ntmps55
      go_wp2_with (first
        | (go_at_call 92;(with_reducible (first|refine (ZX.out _ B0.out.b).mono ?_|refine (ZY.out _ B0.out.b).mono ?_));rintro e w1 ⟨rfl,hb⟩;have B0:=Lib.hid (B0.out.then hb);have da0:=kb_cell B0.out.k0 (i:=0) rfl;have da1:=kb_cell B0.out.k0 (i:=1) rfl;have da2:=kb_cell B0.out.k0 (i:=2) rfl;have db0:=kb_cell B0.out.k1 (i:=0) rfl;have db1:=kb_cell B0.out.k1 (i:=1) rfl;have db2:=kb_cell B0.out.k1 (i:=2) rfl;have dc0:=kb_cell B0.out.k2 (i:=0) rfl;have dc1:=kb_cell B0.out.k2 (i:=1) rfl;have dc2:=kb_cell B0.out.k2 (i:=2) rfl;have fr0:=kb_frozen B0.out.k2 0;have fr1:=kb_frozen B0.out.k2 1;have fr2:=kb_frozen B0.out.k2 2;clear hb))
      obtain ⟨z0,z1,z2,z3⟩:=B0.out.fin g (.slice A l.length c) x
      refine bodyPost_ret (v:=.agg #[.bool g,(.slice A l.length c),.int .i64 x]) (by simp [results,Tryz.results55,go_sem,z0,z1,z2]) rfl ?_
      exact ⟨_,rfl,⟨_,rfl,DX.out.below z3⟩,z3⟩
    · rw [if_neg h2]
      have q2:zeroB M'=false:=decide_eq_false h2
      rw [q2] at ZY
      clear q2
      have hle:=hle h1 h2
      have c5:decide (x' < x)=false:=decide_eq_false (by omega)
      have c6:IntKind.i64.wrap (x' - x)=((x' - x).toNat:Int):=by rw [IntKind.wrap_i64];omega
      have c7:wrap64 (x' - x)=((x' - x).toNat:Int):=by clear c6;unfold wrap64;omega
      have UP:Hid (∀ w,Below W.heap.size W w→Calls Tryz.prog 93 #[.slice B l'.length d,.int .i64 ((x' - x).toNat:Int)] w (LPost (M' * 2 ^ (x' - x).toNat) w)):=Lib.hid (fun w hb=>up_d (DY.out.below hb) ks (x' - x).toNat (by omega))
      obtain ⟨N,hN⟩:∃ N,(x' - x).toNat=N:=⟨_,rfl⟩
      rw [hN] at UP kb c6 c7 ⊢
      obtain ⟨b,hb⟩:∃ b,M' * 2 ^ N=b:=⟨_,rfl⟩
      rw [hb] at UP kb ⊢
      clear hN hb
      by_cases h3:g=g'
      · rw [if_pos h3]
        have c9:(g == g')=true:=by simpa using h3
        clear h3 h1 h2
        have AD:Hid (∀ w,Below W.heap.size W w→∀ vb,Ld w vb b→Calls Tryz.prog 94 #[.slice A l.length c,vb] w (LPost (M + b) w)):=Lib.hid (fun w h1 vb h2=>add_d (DX.out.below h1) h2 hs kb)
        have b0:=B0
        have da0:=kb_cell b0.out.k0 (i:=0) rfl;have da1:=kb_cell b0.out.k0 (i:=1) rfl;have da2:=kb_cell b0.out.k0 (i:=2) rfl;have db0:=kb_cell b0.out.k1 (i:=0) rfl;have db1:=kb_cell b0.out.k1 (i:=1) rfl;have db2:=kb_cell b0.out.k1 (i:=2) rfl;have dc0:=kb_cell b0.out.k2 (i:=0) rfl;have dc1:=kb_cell b0.out.k2 (i:=1) rfl;have dc2:=kb_cell b0.out.k2 (i:=2) rfl;have fr0:=kb_frozen b0.out.k2 0;have fr1:=kb_frozen b0.out.k2 1;have fr2:=kb_frozen b0.out.k2 2
        clear b0
        go_enter Tryz.func55,Tryz.ntmps55
        go_upto_region 7 with (first
          | (go_at_call 92;(with_reducible (first|refine (ZX.out _ B0.out.b).mono ?_|refine (ZY.out _ B0.out.b).mono ?_));rintro e w1 ⟨rfl,hb⟩;have B0:=Lib.hid (B0.out.then hb);have da0:=kb_cell B0.out.k0 (i:=0) rfl;have da1:=kb_cell B0.out.k0 (i:=1) rfl;have da2:=kb_cell B0.out.k0 (i:=2) rfl;have db0:=kb_cell B0.out.k1 (i:=0) rfl;have db1:=kb_cell B0.out.k1 (i:=1) rfl;have db2:=kb_cell B0.out.k1 (i:=2) rfl;have dc0:=kb_cell B0.out.k2 (i:=0) rfl;have dc1:=kb_cell B0.out.k2 (i:=1) rfl;have dc2:=kb_cell B0.out.k2 (i:=2) rfl;have fr0:=kb_frozen B0.out.k2 0;have fr1:=kb_frozen B0.out.k2 1;have fr2:=kb_frozen B0.out.k2 2;clear hb))
        clear da0 da1 da2 db0 db1 db2 dc0 dc1 dc2 fr0 fr1 fr2
        have hS:w1.drew.cell? ⟨W.heap.size,1,none⟩=some (.slice A l.length c)∧w1.drew.cell? ⟨W.heap.size,2,none⟩=some (.int .i64 x)∧w1.drew.cell? ⟨W.heap.size + 1,1,none⟩=some (.slice B l'.length d)∧w1.drew.cell? ⟨W.heap.size + 1,2,none⟩=some (.int .i64 x'):=⟨kb_cell B0.out.drew.k0 (i:=1) rfl,kb_cell B0.out.drew.k0 (i:=2) rfl,kb_cell B0.out.drew.k1 (i:=1) rfl,kb_cell B0.out.drew.k1 (i:=2) rfl⟩
        refine wp_region_G (g:=10) (S:=fun w'=>w'.cell? ⟨W.heap.size,1,none⟩=some (.slice A l.length c)∧w'.cell? ⟨W.heap.size,2,none⟩=some (.int .i64 x)∧w'.cell? ⟨W.heap.size + 1,1,none⟩=some (.slice B l'.length d)∧w'.cell? ⟨W.heap.size + 1,2,none⟩=some (.int .i64 x')) (by kernel_rfl) ?_
        have B0:=Lib.hid B0.out.drew
        obtain ⟨wq,hwq⟩:∃ w,w1.drew=w:=⟨_,rfl⟩
        rw [hwq] at hS B0
        rw [hwq]
        clear hwq
        (refine wpG_take (i:=0) (v:=?_) rfl rfl (by kernel_rfl) (by kernel_rfl) (by kernel_rfl) (fun _ _ _ h=>h) (Or.inl ⟨by rfl,fun w=>?_⟩) (Or.inr hS) ?_;rotate_left;focus (go_simp;first|done|with_reducible rfl|exact rfl));(try simp only [Act.put,zA,zB,zC,zD,zE,zF])
        (refine wpG_ld (i:=1) 10 (v:=?_) rfl rfl (by kernel_rfl) (by kernel_rfl) (by kernel_rfl) (by kernel_rfl) (fun _ _ _ h=>h) (Or.inl ⟨by rfl,?_⟩) hS ?_;rotate_left;focus (intro w hSw;(try dsimp only at hSw);go_simp;first|done|with_reducible rfl|exact rfl));(try simp only [Act.put,zA,zB,zC,zD,zE,zF])
        (refine wpG_take (i:=2) (v:=?_) rfl rfl (by kernel_rfl) (by kernel_rfl) (by kernel_rfl) (fun _ _ _ h=>h) (Or.inl ⟨by rfl,fun w=>?_⟩) (Or.inr hS) ?_;rotate_left;focus (go_simp;first|done|with_reducible rfl|exact rfl));(try simp only [Act.put,zA,zB,zC,zD,zE,zF])
        (refine wpG_ldC (i:=3) [9,10] (v:=?_) rfl rfl (by kernel_rfl) (by kernel_rfl) (by kernel_rfl) (by kernel_rfl) (fun _ _ _ h=>h) (Or.inl ⟨by rfl,?_⟩) hS ?_;rotate_left;focus (intro w hSw;(try dsimp only at hSw);go_simp;first|done|with_reducible rfl|exact rfl));(try simp only [Act.put,zA,zB,zC,zD,zE,zF])
        (refine wpG_take (i:=4) (v:=?_) rfl rfl (by kernel_rfl) (by kernel_rfl) (by kernel_rfl) (fun _ _ _ h=>h) (Or.inl ⟨by rfl,fun w=>?_⟩) (Or.inr hS) ?_;rotate_left;focus (go_simp;first|done|with_reducible rfl|exact rfl));(try simp only [Act.put,zA,zB,zC,zD,zE,zF])
        (refine wpG_ldC (i:=5) [8,9,10] (v:=?_) rfl rfl (by kernel_rfl) (by kernel_rfl) (by kernel_rfl) (by kernel_rfl) (fun _ _ _ h=>h) (Or.inl ⟨by rfl,?_⟩) hS ?_;rotate_left;focus (intro w hSw;(try dsimp only at hSw);go_simp;first|done|with_reducible rfl|exact rfl));(try simp only [Act.put,zA,zB,zC,zD,zE,zF])
        (refine wpG_take (i:=6) (v:=?_) rfl rfl (by kernel_rfl) (by kernel_rfl) (by kernel_rfl) (fun _ _ _ h=>h) (Or.inl ⟨by rfl,fun w=>?_⟩) (Or.inr hS) ?_;rotate_left;focus (go_simp;first|done|with_reducible rfl|exact rfl));(try simp only [Act.put,zA,zB,zC,zD,zE,zF])
        (refine wpG_ldC (i:=7) [8,9,10] (v:=?_) rfl rfl (by kernel_rfl) (by kernel_rfl) (by kernel_rfl) (by kernel_rfl) (fun _ _ _ h=>h) (Or.inl ⟨by rfl,?_⟩) hS ?_;rotate_left;focus (intro w hSw;(try dsimp only at hSw);go_simp;first|done|with_reducible rfl|exact rfl));(try simp only [Act.put,zA,zB,zC,zD,zE,zF])
        (refine wpG_take (i:=8) (v:=?_) rfl rfl (by kernel_rfl) (by kernel_rfl) (by kernel_rfl) (fun _ _ _ h=>h) (Or.inl ⟨by rfl,fun w=>?_⟩) (Or.inr hS) ?_;rotate_left;focus (go_simp;first|done|with_reducible rfl|exact rfl));(try simp only [Act.put,zA,zB,zC,zD,zE,zF])
        refine wpG_one (i:=9) (by kernel_rfl) rfl (fun K hK=>?_);have HK:=Lib.hid hK;clear hK
        go_simp
        (with_reducible refine (UP.out _ B0.out.b).mono ?_)
        rintro e w2 ⟨vb,rfl,hv,hb⟩
        have LB:=Lib.hid hv.ld
        have B0:=Lib.hid (B0.out.then hb)
        refine HK.out _ _ (Or.inr ⟨kb_cell B0.out.k0 (i:=1) rfl,kb_cell B0.out.k0 (i:=2) rfl,kb_cell B0.out.k1 (i:=1) rfl,kb_cell B0.out.k1 (i:=2) rfl⟩) ?_
        clear HK K hv hb hS
        (try simp only [Act.put,zA,zB,zC,zD,zE,zF])
        refine wpG_one (i:=10) (by kernel_rfl) rfl (fun K hK=>?_);have HK:=Lib.hid hK;clear hK;go_simp;refine HK.out _ _ (Or.inl (by kernel_rfl)) ?_;clear HK K;(try simp only [Act.put,zA,zB,zC,zD,zE,zF])
        refine wpG_one (i:=11) (by kernel_rfl) rfl (fun K hK=>?_);have HK:=Lib.hid hK;clear hK;go_simp;refine HK.out _ _ (Or.inl (by kernel_rfl)) ?_;clear HK K;(try simp only [Act.put,zA,zB,zC,zD,zE,zF])
        refine wpG_done (by kernel_rfl) ?_ _
        have da0:=kb_cell B0.out.k0 (i:=0) rfl;have da1:=kb_cell B0.out.k0 (i:=1) rfl;have da2:=kb_cell B0.out.k0 (i:=2) rfl;have db0:=kb_cell B0.out.k1 (i:=0) rfl;have db1:=kb_cell B0.out.k1 (i:=1) rfl;have db2:=kb_cell B0.out.k1 (i:=2) rfl;have dc0:=kb_cell B0.out.k2 (i:=0) rfl;have dc1:=kb_cell B0.out.k2 (i:=1) rfl;have dc2:=kb_cell B0.out.k2 (i:=2) rfl;have fr0:=kb_frozen B0.out.k2 0;have fr1:=kb_frozen B0.out.k2 1;have fr2:=kb_frozen B0.out.k2 2
        go_upto_region 9 with (fail)
        refine wp_region_G (g:=8) (S:=fun w'=>w'.cell? ⟨W.heap.size,0,none⟩=some (.bool g)∧w'.cell? ⟨W.heap.size,2,none⟩=some (.int .i64 x)) (by kernel_rfl) ?_
        have B1:=Lib.hid B0.out.drew
        have LB1:Hid (Ld _ vb b):=Lib.hid (LB.out.below (bl_drew (Below.refl _ _)))
        obtain ⟨wd,hwd⟩:∃ w,w2.drew=w:=⟨_,rfl⟩
        rw [hwd] at B1 LB1
        rw [hwd]
        clear hwd
        have hS:wd.cell? ⟨W.heap.size,0,none⟩=some (.bool g)∧wd.cell? ⟨W.heap.size,2,none⟩=some (.int .i64 x):=⟨kb_cell B1.out.k0 (i:=0) rfl,kb_cell B1.out.k0 (i:=2) rfl⟩
        (refine wpG_take (i:=0) (v:=?_) rfl rfl (by kernel_rfl) (by kernel_rfl) (by kernel_rfl) (fun _ _ _ h=>h) (Or.inl ⟨by rfl,fun w=>?_⟩) (Or.inr hS) ?_;rotate_left;focus (go_simp;first|done|with_reducible rfl|exact rfl));(try simp only [Act.put,zA,zB,zC,zD,zE,zF])
        (refine wpG_ldC (i:=1) [7,8] (v:=?_) rfl rfl (by kernel_rfl) (by kernel_rfl) (by kernel_rfl) (by kernel_rfl) (fun _ _ _ h=>h) (Or.inl ⟨by rfl,?_⟩) hS ?_;rotate_left;focus (intro w hSw;(try dsimp only at hSw);go_simp;first|done|with_reducible rfl|exact rfl));(try simp only [Act.put,zA,zB,zC,zD,zE,zF])
        (refine wpG_take (i:=2) (v:=?_) rfl rfl (by kernel_rfl) (by kernel_rfl) (by kernel_rfl) (fun _ _ _ h=>h) (Or.inl ⟨by rfl,fun w=>?_⟩) (Or.inr hS) ?_;rotate_left;focus (go_simp;first|done|with_reducible rfl|exact rfl));(try simp only [Act.put,zA,zB,zC,zD,zE,zF]);(refine wpG_take (i:=3) (v:=?_) rfl rfl (by kernel_rfl) (by kernel_rfl) (by kernel_rfl) (fun _ _ _ h=>h) (Or.inl ⟨by rfl,fun w=>?_⟩) (Or.inr hS) ?_;rotate_left;focus (go_simp;first|done|with_reducible rfl|exact rfl));(try simp only [Act.put,zA,zB,zC,zD,zE,zF]);(refine wpG_take (i:=5) (v:=?_) rfl rfl (by kernel_rfl) (by kernel_rfl) (by kernel_rfl) (fun _ _ _ h=>h) (Or.inl ⟨by rfl,fun w=>?_⟩) (Or.inr hS) ?_;rotate_left;focus (go_simp;first|done|with_reducible rfl|exact rfl));(try simp only [Act.put,zA,zB,zC,zD,zE,zF])
        (refine wpG_ldC (i:=6) [7,8] (v:=?_) rfl rfl (by kernel_rfl) (by kernel_rfl) (by kernel_rfl) (by kernel_rfl) (fun _ _ _ h=>h) (Or.inl ⟨by rfl,?_⟩) hS ?_;rotate_left;focus (intro w hSw;(try dsimp only at hSw);go_simp;first|done|with_reducible rfl|exact rfl));(try simp only [Act.put,zA,zB,zC,zD,zE,zF])
        refine wpG_one (i:=4) (by kernel_rfl) rfl (fun K hK=>?_);have HK:=Lib.hid hK;clear hK
        go_simp
        (with_reducible refine (AD.out _ B1.out.b _ LB1.out).mono ?_)
        rintro e w4 ⟨vr,rfl,hv,hb⟩
        obtain ⟨AR,mR,cR,rfl⟩:=hv.ld.slice
        have VR:=Lib.hid hv
        have SZ:=Lib.hid (kb_lt B1.out.k2)
        have B0:=Lib.hid (B1.out.then hb)
        have hS:w4.cell? ⟨W.heap.size,0,none⟩=some (.bool g)∧w4.cell? ⟨W.heap.size,2,none⟩=some (.int .i64 x):=⟨kb_cell B0.out.k0 (i:=0) rfl,kb_cell B0.out.k0 (i:=2) rfl⟩
        refine HK.out _ _ (Or.inr hS) ?_
        clear HK K hv hb
        (try simp only [Act.put,zA,zB,zC,zD,zE,zF])
        have da0:=kb_cell B0.out.k0 (i:=0) rfl;have da1:=kb_cell B0.out.k0 (i:=1) rfl;have da2:=kb_cell B0.out.k0 (i:=2) rfl;have db0:=kb_cell B0.out.k1 (i:=0) rfl;have db1:=kb_cell B0.out.k1 (i:=1) rfl;have db2:=kb_cell B0.out.k1 (i:=2) rfl;have dc0:=kb_cell B0.out.k2 (i:=0) rfl;have dc1:=kb_cell B0.out.k2 (i:=1) rfl;have dc2:=kb_cell B0.out.k2 (i:=2) rfl;have fr0:=kb_frozen B0.out.k2 0;have fr1:=kb_frozen B0.out.k2 1;have fr2:=kb_frozen B0.out.k2 2
        (refine wpG_take (i:=7) (v:=?_) rfl rfl (by kernel_rfl) (by kernel_rfl) (by kernel_rfl) (fun _ _ _ h=>h) (Or.inl ⟨by rfl,fun w=>?_⟩) (Or.inr hS) ?_;rotate_left;focus (go_simp;first|done|with_reducible rfl|exact rfl));(try simp only [Act.put,zA,zB,zC,zD,zE,zF])
        refine wpG_one (i:=8) (by kernel_rfl) rfl (fun K hK=>?_);have HK:=Lib.hid hK;clear hK;go_simp;refine HK.out _ _ (Or.inl (by kernel_rfl)) ?_;clear HK K;(try simp only [Act.put,zA,zB,zC,zD,zE,zF])
        refine wpG_done (by kernel_rfl) ?_ _
        go_wp2
        obtain ⟨z0,z1,z2,z3⟩:=B0.out.fin g (.slice AR mR cR) x
        refine bodyPost_ret (v:=.agg #[.bool g,(.slice AR mR cR),.int .i64 x]) (by simp [results,Tryz.results55,go_sem,z0,z1,z2]) rfl ?_
        exact ⟨_,rfl,⟨_,rfl,B0.out.lo SZ.out g VR.out⟩,z3⟩
      · rw [if_neg h3]
        have c9:(g == g')=false:=by simpa using h3
        clear h3 h1 h2
        have CM:Hid (∀ w,Below W.heap.size W w→∀ vb,Ld w vb b→Calls Tryz.prog 95 #[.slice A l.length c,vb] w fun e w'=>e=.returned (.int .i64 (if M < b then -1 else if b < M then 1 else 0))∧Below w.heap.size w w'):=Lib.hid (fun w h1 vb h2=>cmp_d (DX.out.below h1) h2 hs kb)
        by_cases h4:b≤M
        · rw [if_pos h4]
          have cm:∃ q:Int,(if M < b then (-1:Int) else if b < M then 1 else 0)=q∧decide (0≤q)=true:=⟨_,rfl,by rw [if_neg (by omega)];split <;> rfl⟩
          obtain ⟨q,hq,c10⟩:=cm
          rw [hq] at CM
          have AD:Hid (∀ w,Below W.heap.size W w→∀ vb,Ld w vb b→Calls Tryz.prog 96 #[.slice A l.length c,vb] w (LPost (M - b) w)):=Lib.hid (fun w h1 vb h2=>sub_d (DX.out.below h1) h2 hs h4)
          clear hq h4
          have b0:=B0
          have da0:=kb_cell b0.out.k0 (i:=0) rfl;have da1:=kb_cell b0.out.k0 (i:=1) rfl;have da2:=kb_cell b0.out.k0 (i:=2) rfl;have db0:=kb_cell b0.out.k1 (i:=0) rfl;have db1:=kb_cell b0.out.k1 (i:=1) rfl;have db2:=kb_cell b0.out.k1 (i:=2) rfl;have dc0:=kb_cell b0.out.k2 (i:=0) rfl;have dc1:=kb_cell b0.out.k2 (i:=1) rfl;have dc2:=kb_cell b0.out.k2 (i:=2) rfl;have fr0:=kb_frozen b0.out.k2 0;have fr1:=kb_frozen b0.out.k2 1;have fr2:=kb_frozen b0.out.k2 2
          clear b0
          go_enter Tryz.func55,Tryz.ntmps55
          go_upto_region 7 with (first
            | (go_at_call 92;(with_reducible (first|refine (ZX.out _ B0.out.b).mono ?_|refine (ZY.out _ B0.out.b).mono ?_));rintro e w1 ⟨rfl,hb⟩;have B0:=Lib.hid (B0.out.then hb);have da0:=kb_cell B0.out.k0 (i:=0) rfl;have da1:=kb_cell B0.out.k0 (i:=1) rfl;have da2:=kb_cell B0.out.k0 (i:=2) rfl;have db0:=kb_cell B0.out.k1 (i:=0) rfl;have db1:=kb_cell B0.out.k1 (i:=1) rfl;have db2:=kb_cell B0.out.k1 (i:=2) rfl;have dc0:=kb_cell B0.out.k2 (i:=0) rfl;have dc1:=kb_cell B0.out.k2 (i:=1) rfl;have dc2:=kb_cell B0.out.k2 (i:=2) rfl;have fr0:=kb_frozen B0.out.k2 0;have fr1:=kb_frozen B0.out.k2 1;have fr2:=kb_frozen B0.out.k2 2;clear hb))
          clear da0 da1 da2 db0 db1 db2 dc0 dc1 dc2 fr0 fr1 fr2
          have hS:w1.drew.cell? ⟨W.heap.size,1,none⟩=some (.slice A l.length c)∧w1.drew.cell? ⟨W.heap.size,2,none⟩=some (.int .i64 x)∧w1.drew.cell? ⟨W.heap.size + 1,1,none⟩=some (.slice B l'.length d)∧w1.drew.cell? ⟨W.heap.size + 1,2,none⟩=some (.int .i64 x'):=⟨kb_cell B0.out.drew.k0 (i:=1) rfl,kb_cell B0.out.drew.k0 (i:=2) rfl,kb_cell B0.out.drew.k1 (i:=1) rfl,kb_cell B0.out.drew.k1 (i:=2) rfl⟩
          refine wp_region_G (g:=10) (S:=fun w'=>w'.cell? ⟨W.heap.size,1,none⟩=some (.slice A l.length c)∧w'.cell? ⟨W.heap.size,2,none⟩=some (.int .i64 x)∧w'.cell? ⟨W.heap.size + 1,1,none⟩=some (.slice B l'.length d)∧w'.cell? ⟨W.heap.size + 1,2,none⟩=some (.int .i64 x')) (by kernel_rfl) ?_
          have B0:=Lib.hid B0.out.drew
          obtain ⟨wq,hwq⟩:∃ w,w1.drew=w:=⟨_,rfl⟩
          rw [hwq] at hS B0
          rw [hwq]
          clear hwq
          (refine wpG_take (i:=0) (v:=?_) rfl rfl (by kernel_rfl) (by kernel_rfl) (by kernel_rfl) (fun _ _ _ h=>h) (Or.inl ⟨by rfl,fun w=>?_⟩) (Or.inr hS) ?_;rotate_left;focus (go_simp;first|done|with_reducible rfl|exact rfl));(try simp only [Act.put,zA,zB,zC,zD,zE,zF])
          (refine wpG_ld (i:=1) 10 (v:=?_) rfl rfl (by kernel_rfl) (by kernel_rfl) (by kernel_rfl) (by kernel_rfl) (fun _ _ _ h=>h) (Or.inl ⟨by rfl,?_⟩) hS ?_;rotate_left;focus (intro w hSw;(try dsimp only at hSw);go_simp;first|done|with_reducible rfl|exact rfl));(try simp only [Act.put,zA,zB,zC,zD,zE,zF])
          (refine wpG_take (i:=2) (v:=?_) rfl rfl (by kernel_rfl) (by kernel_rfl) (by kernel_rfl) (fun _ _ _ h=>h) (Or.inl ⟨by rfl,fun w=>?_⟩) (Or.inr hS) ?_;rotate_left;focus (go_simp;first|done|with_reducible rfl|exact rfl));(try simp only [Act.put,zA,zB,zC,zD,zE,zF])
          (refine wpG_ldC (i:=3) [9,10] (v:=?_) rfl rfl (by kernel_rfl) (by kernel_rfl) (by kernel_rfl) (by kernel_rfl) (fun _ _ _ h=>h) (Or.inl ⟨by rfl,?_⟩) hS ?_;rotate_left;focus (intro w hSw;(try dsimp only at hSw);go_simp;first|done|with_reducible rfl|exact rfl));(try simp only [Act.put,zA,zB,zC,zD,zE,zF])
          (refine wpG_take (i:=4) (v:=?_) rfl rfl (by kernel_rfl) (by kernel_rfl) (by kernel_rfl) (fun _ _ _ h=>h) (Or.inl ⟨by rfl,fun w=>?_⟩) (Or.inr hS) ?_;rotate_left;focus (go_simp;first|done|with_reducible rfl|exact rfl));(try simp only [Act.put,zA,zB,zC,zD,zE,zF])
          (refine wpG_ldC (i:=5) [8,9,10] (v:=?_) rfl rfl (by kernel_rfl) (by kernel_rfl) (by kernel_rfl) (by kernel_rfl) (fun _ _ _ h=>h) (Or.inl ⟨by rfl,?_⟩) hS ?_;rotate_left;focus (intro w hSw;(try dsimp only at hSw);go_simp;first|done|with_reducible rfl|exact rfl));(try simp only [Act.put,zA,zB,zC,zD,zE,zF])
          (refine wpG_take (i:=6) (v:=?_) rfl rfl (by kernel_rfl) (by kernel_rfl) (by kernel_rfl) (fun _ _ _ h=>h) (Or.inl ⟨by rfl,fun w=>?_⟩) (Or.inr hS) ?_;rotate_left;focus (go_simp;first|done|with_reducible rfl|exact rfl));(try simp only [Act.put,zA,zB,zC,zD,zE,zF])
          (refine wpG_ldC (i:=7) [8,9,10] (v:=?_) rfl rfl (by kernel_rfl) (by kernel_rfl) (by kernel_rfl) (by kernel_rfl) (fun _ _ _ h=>h) (Or.inl ⟨by rfl,?_⟩) hS ?_;rotate_left;focus (intro w hSw;(try dsimp only at hSw);go_simp;first|done|with_reducible rfl|exact rfl));(try simp only [Act.put,zA,zB,zC,zD,zE,zF])
          (refine wpG_take (i:=8) (v:=?_) rfl rfl (by kernel_rfl) (by kernel_rfl) (by kernel_rfl) (fun _ _ _ h=>h) (Or.inl ⟨by rfl,fun w=>?_⟩) (Or.inr hS) ?_;rotate_left;focus (go_simp;first|done|with_reducible rfl|exact rfl));(try simp only [Act.put,zA,zB,zC,zD,zE,zF])
          refine wpG_one (i:=9) (by kernel_rfl) rfl (fun K hK=>?_);have HK:=Lib.hid hK;clear hK
          go_simp
          (with_reducible refine (UP.out _ B0.out.b).mono ?_)
          rintro e w2 ⟨vb,rfl,hv,hb⟩
          have LB:=Lib.hid hv.ld
          have B0:=Lib.hid (B0.out.then hb)
          refine HK.out _ _ (Or.inr ⟨kb_cell B0.out.k0 (i:=1) rfl,kb_cell B0.out.k0 (i:=2) rfl,kb_cell B0.out.k1 (i:=1) rfl,kb_cell B0.out.k1 (i:=2) rfl⟩) ?_
          clear HK K hv hb hS
          (try simp only [Act.put,zA,zB,zC,zD,zE,zF])
          refine wpG_one (i:=10) (by kernel_rfl) rfl (fun K hK=>?_);have HK:=Lib.hid hK;clear hK;go_simp;refine HK.out _ _ (Or.inl (by kernel_rfl)) ?_;clear HK K;(try simp only [Act.put,zA,zB,zC,zD,zE,zF])
          refine wpG_one (i:=11) (by kernel_rfl) rfl (fun K hK=>?_);have HK:=Lib.hid hK;clear hK;go_simp;refine HK.out _ _ (Or.inl (by kernel_rfl)) ?_;clear HK K;(try simp only [Act.put,zA,zB,zC,zD,zE,zF])
          refine wpG_done (by kernel_rfl) ?_ _
          have da0:=kb_cell B0.out.k0 (i:=0) rfl;have da1:=kb_cell B0.out.k0 (i:=1) rfl;have da2:=kb_cell B0.out.k0 (i:=2) rfl;have db0:=kb_cell B0.out.k1 (i:=0) rfl;have db1:=kb_cell B0.out.k1 (i:=1) rfl;have db2:=kb_cell B0.out.k1 (i:=2) rfl;have dc0:=kb_cell B0.out.k2 (i:=0) rfl;have dc1:=kb_cell B0.out.k2 (i:=1) rfl;have dc2:=kb_cell B0.out.k2 (i:=2) rfl;have fr0:=kb_frozen B0.out.k2 0;have fr1:=kb_frozen B0.out.k2 1;have fr2:=kb_frozen B0.out.k2 2
          go_upto_region 11 with (go_at_call 95;(with_reducible refine (CM.out _ B0.out.b _ LB.out).mono ?_);rintro e w3 ⟨rfl,hb⟩;have LB:=Lib.hid (LB.out.below hb);have B0:=Lib.hid (B0.out.then hb);have da0:=kb_cell B0.out.k0 (i:=0) rfl;have da1:=kb_cell B0.out.k0 (i:=1) rfl;have da2:=kb_cell B0.out.k0 (i:=2) rfl;have db0:=kb_cell B0.out.k1 (i:=0) rfl;have db1:=kb_cell B0.out.k1 (i:=1) rfl;have db2:=kb_cell B0.out.k1 (i:=2) rfl;have dc0:=kb_cell B0.out.k2 (i:=0) rfl;have dc1:=kb_cell B0.out.k2 (i:=1) rfl;have dc2:=kb_cell B0.out.k2 (i:=2) rfl;have fr0:=kb_frozen B0.out.k2 0;have fr1:=kb_frozen B0.out.k2 1;have fr2:=kb_frozen B0.out.k2 2;clear hb)
          refine wp_region_G (g:=8) (S:=fun w'=>w'.cell? ⟨W.heap.size,0,none⟩=some (.bool g)∧w'.cell? ⟨W.heap.size,2,none⟩=some (.int .i64 x)) (by kernel_rfl) ?_
          have B1:=Lib.hid B0.out.drew
          have LB1:Hid (Ld _ vb b):=Lib.hid (LB.out.below (bl_drew (Below.refl _ _)))
          obtain ⟨wd,hwd⟩:∃ w,w3.drew=w:=⟨_,rfl⟩
          rw [hwd] at B1 LB1
          rw [hwd]
          clear hwd
          have hS:wd.cell? ⟨W.heap.size,0,none⟩=some (.bool g)∧wd.cell? ⟨W.heap.size,2,none⟩=some (.int .i64 x):=⟨kb_cell B1.out.k0 (i:=0) rfl,kb_cell B1.out.k0 (i:=2) rfl⟩
          (refine wpG_take (i:=0) (v:=?_) rfl rfl (by kernel_rfl) (by kernel_rfl) (by kernel_rfl) (fun _ _ _ h=>h) (Or.inl ⟨by rfl,fun w=>?_⟩) (Or.inr hS) ?_;rotate_left;focus (go_simp;first|done|with_reducible rfl|exact rfl));(try simp only [Act.put,zA,zB,zC,zD,zE,zF])
          (refine wpG_ldC (i:=1) [7,8] (v:=?_) rfl rfl (by kernel_rfl) (by kernel_rfl) (by kernel_rfl) (by kernel_rfl) (fun _ _ _ h=>h) (Or.inl ⟨by rfl,?_⟩) hS ?_;rotate_left;focus (intro w hSw;(try dsimp only at hSw);go_simp;first|done|with_reducible rfl|exact rfl));(try simp only [Act.put,zA,zB,zC,zD,zE,zF])
          (refine wpG_take (i:=2) (v:=?_) rfl rfl (by kernel_rfl) (by kernel_rfl) (by kernel_rfl) (fun _ _ _ h=>h) (Or.inl ⟨by rfl,fun w=>?_⟩) (Or.inr hS) ?_;rotate_left;focus (go_simp;first|done|with_reducible rfl|exact rfl));(try simp only [Act.put,zA,zB,zC,zD,zE,zF]);(refine wpG_take (i:=3) (v:=?_) rfl rfl (by kernel_rfl) (by kernel_rfl) (by kernel_rfl) (fun _ _ _ h=>h) (Or.inl ⟨by rfl,fun w=>?_⟩) (Or.inr hS) ?_;rotate_left;focus (go_simp;first|done|with_reducible rfl|exact rfl));(try simp only [Act.put,zA,zB,zC,zD,zE,zF]);(refine wpG_take (i:=5) (v:=?_) rfl rfl (by kernel_rfl) (by kernel_rfl) (by kernel_rfl) (fun _ _ _ h=>h) (Or.inl ⟨by rfl,fun w=>?_⟩) (Or.inr hS) ?_;rotate_left;focus (go_simp;first|done|with_reducible rfl|exact rfl));(try simp only [Act.put,zA,zB,zC,zD,zE,zF])
          (refine wpG_ldC (i:=6) [7,8] (v:=?_) rfl rfl (by kernel_rfl) (by kernel_rfl) (by kernel_rfl) (by kernel_rfl) (fun _ _ _ h=>h) (Or.inl ⟨by rfl,?_⟩) hS ?_;rotate_left;focus (intro w hSw;(try dsimp only at hSw);go_simp;first|done|with_reducible rfl|exact rfl));(try simp only [Act.put,zA,zB,zC,zD,zE,zF])
          refine wpG_one (i:=4) (by kernel_rfl) rfl (fun K hK=>?_);have HK:=Lib.hid hK;clear hK
          go_simp
          (with_reducible refine (AD.out _ B1.out.b _ LB1.out).mono ?_)
          rintro e w4 ⟨vr,rfl,hv,hb⟩
          obtain ⟨AR,mR,cR,rfl⟩:=hv.ld.slice
          have VR:=Lib.hid hv
          have SZ:=Lib.hid (kb_lt B1.out.k2)
          have B0:=Lib.hid (B1.out.then hb)
          have hS:w4.cell? ⟨W.heap.size,0,none⟩=some (.bool g)∧w4.cell? ⟨W.heap.size,2,none⟩=some (.int .i64 x):=⟨kb_cell B0.out.k0 (i:=0) rfl,kb_cell B0.out.k0 (i:=2) rfl⟩
          refine HK.out _ _ (Or.inr hS) ?_
          clear HK K hv hb
          (try simp only [Act.put,zA,zB,zC,zD,zE,zF])
          have da0:=kb_cell B0.out.k0 (i:=0) rfl;have da1:=kb_cell B0.out.k0 (i:=1) rfl;have da2:=kb_cell B0.out.k0 (i:=2) rfl;have db0:=kb_cell B0.out.k1 (i:=0) rfl;have db1:=kb_cell B0.out.k1 (i:=1) rfl;have db2:=kb_cell B0.out.k1 (i:=2) rfl;have dc0:=kb_cell B0.out.k2 (i:=0) rfl;have dc1:=kb_cell B0.out.k2 (i:=1) rfl;have dc2:=kb_cell B0.out.k2 (i:=2) rfl;have fr0:=kb_frozen B0.out.k2 0;have fr1:=kb_frozen B0.out.k2 1;have fr2:=kb_frozen B0.out.k2 2
          (refine wpG_take (i:=7) (v:=?_) rfl rfl (by kernel_rfl) (by kernel_rfl) (by kernel_rfl) (fun _ _ _ h=>h) (Or.inl ⟨by rfl,fun w=>?_⟩) (Or.inr hS) ?_;rotate_left;focus (go_simp;first|done|with_reducible rfl|exact rfl));(try simp only [Act.put,zA,zB,zC,zD,zE,zF])
          refine wpG_one (i:=8) (by kernel_rfl) rfl (fun K hK=>?_);have HK:=Lib.hid hK;clear hK;go_simp;refine HK.out _ _ (Or.inl (by kernel_rfl)) ?_;clear HK K;(try simp only [Act.put,zA,zB,zC,zD,zE,zF])
          refine wpG_done (by kernel_rfl) ?_ _
          go_wp2
          obtain ⟨z0,z1,z2,z3⟩:=B0.out.fin g (.slice AR mR cR) x
          refine bodyPost_ret (v:=.agg #[.bool g,(.slice AR mR cR),.int .i64 x]) (by simp [results,Tryz.results55,go_sem,z0,z1,z2]) rfl ?_
          exact ⟨_,rfl,⟨_,rfl,B0.out.lo SZ.out g VR.out⟩,z3⟩
        · rw [if_neg h4]
          have cm:∃ q:Int,(if M < b then (-1:Int) else if b < M then 1 else 0)=q∧decide (0≤q)=false:=⟨_,rfl,by rw [if_pos (by omega)];rfl⟩
          obtain ⟨q,hq,c10⟩:=cm
          rw [hq] at CM
          have AD:Hid (∀ w,Below W.heap.size W w→∀ vb,Ld w vb b→Calls Tryz.prog 96 #[vb,.slice A l.length c] w (LPost (b - M) w)):=Lib.hid (fun w h1 vb h2=>sub_d h2 (DX.out.below h1) kb (by omega))
          clear hq h4
          have b0:=B0
          have da0:=kb_cell b0.out.k0 (i:=0) rfl;have da1:=kb_cell b0.out.k0 (i:=1) rfl;have da2:=kb_cell b0.out.k0 (i:=2) rfl;have db0:=kb_cell b0.out.k1 (i:=0) rfl;have db1:=kb_cell b0.out.k1 (i:=1) rfl;have db2:=kb_cell b0.out.k1 (i:=2) rfl;have dc0:=kb_cell b0.out.k2 (i:=0) rfl;have dc1:=kb_cell b0.out.k2 (i:=1) rfl;have dc2:=kb_cell b0.out.k2 (i:=2) rfl;have fr0:=kb_frozen b0.out.k2 0;have fr1:=kb_frozen b0.out.k2 1;have fr2:=kb_frozen b0.out.k2 2
          clear b0
          go_enter Tryz.func55,Tryz.ntmps55
          go_upto_region 7 with (first
            | (go_at_call 92;(with_reducible (first|refine (ZX.out _ B0.out.b).mono ?_|refine (ZY.out _ B0.out.b).mono ?_));rintro e w1 ⟨rfl,hb⟩;have B0:=Lib.hid (B0.out.then hb);have da0:=kb_cell B0.out.k0 (i:=0) rfl;have da1:=kb_cell B0.out.k0 (i:=1) rfl;have da2:=kb_cell B0.out.k0 (i:=2) rfl;have db0:=kb_cell B0.out.k1 (i:=0) rfl;have db1:=kb_cell B0.out.k1 (i:=1) rfl;have db2:=kb_cell B0.out.k1 (i:=2) rfl;have dc0:=kb_cell B0.out.k2 (i:=0) rfl;have dc1:=kb_cell B0.out.k2 (i:=1) rfl;have dc2:=kb_cell B0.out.k2 (i:=2) rfl;have fr0:=kb_frozen B0.out.k2 0;have fr1:=kb_frozen B0.out.k2 1;have fr2:=kb_frozen B0.out.k2 2;clear hb))
          clear da0 da1 da2 db0 db1 db2 dc0 dc1 dc2 fr0 fr1 fr2
          have hS:w1.drew.cell? ⟨W.heap.size,1,none⟩=some (.slice A l.length c)∧w1.drew.cell? ⟨W.heap.size,2,none⟩=some (.int .i64 x)∧w1.drew.cell? ⟨W.heap.size + 1,1,none⟩=some (.slice B l'.length d)∧w1.drew.cell? ⟨W.heap.size + 1,2,none⟩=some (.int .i64 x'):=⟨kb_cell B0.out.drew.k0 (i:=1) rfl,kb_cell B0.out.drew.k0 (i:=2) rfl,kb_cell B0.out.drew.k1 (i:=1) rfl,kb_cell B0.out.drew.k1 (i:=2) rfl⟩
          refine wp_region_G (g:=10) (S:=fun w'=>w'.cell? ⟨W.heap.size,1,none⟩=some (.slice A l.length c)∧w'.cell? ⟨W.heap.size,2,none⟩=some (.int .i64 x)∧w'.cell? ⟨W.heap.size + 1,1,none⟩=some (.slice B l'.length d)∧w'.cell? ⟨W.heap.size + 1,2,none⟩=some (.int .i64 x')) (by kernel_rfl) ?_
          have B0:=Lib.hid B0.out.drew
          obtain ⟨wq,hwq⟩:∃ w,w1.drew=w:=⟨_,rfl⟩
          rw [hwq] at hS B0
          rw [hwq]
          clear hwq
          (refine wpG_take (i:=0) (v:=?_) rfl rfl (by kernel_rfl) (by kernel_rfl) (by kernel_rfl) (fun _ _ _ h=>h) (Or.inl ⟨by rfl,fun w=>?_⟩) (Or.inr hS) ?_;rotate_left;focus (go_simp;first|done|with_reducible rfl|exact rfl));(try simp only [Act.put,zA,zB,zC,zD,zE,zF])
          (refine wpG_ld (i:=1) 10 (v:=?_) rfl rfl (by kernel_rfl) (by kernel_rfl) (by kernel_rfl) (by kernel_rfl) (fun _ _ _ h=>h) (Or.inl ⟨by rfl,?_⟩) hS ?_;rotate_left;focus (intro w hSw;(try dsimp only at hSw);go_simp;first|done|with_reducible rfl|exact rfl));(try simp only [Act.put,zA,zB,zC,zD,zE,zF])
          (refine wpG_take (i:=2) (v:=?_) rfl rfl (by kernel_rfl) (by kernel_rfl) (by kernel_rfl) (fun _ _ _ h=>h) (Or.inl ⟨by rfl,fun w=>?_⟩) (Or.inr hS) ?_;rotate_left;focus (go_simp;first|done|with_reducible rfl|exact rfl));(try simp only [Act.put,zA,zB,zC,zD,zE,zF])
          (refine wpG_ldC (i:=3) [9,10] (v:=?_) rfl rfl (by kernel_rfl) (by kernel_rfl) (by kernel_rfl) (by kernel_rfl) (fun _ _ _ h=>h) (Or.inl ⟨by rfl,?_⟩) hS ?_;rotate_left;focus (intro w hSw;(try dsimp only at hSw);go_simp;first|done|with_reducible rfl|exact rfl));(try simp only [Act.put,zA,zB,zC,zD,zE,zF])
          (refine wpG_take (i:=4) (v:=?_) rfl rfl (by kernel_rfl) (by kernel_rfl) (by kernel_rfl) (fun _ _ _ h=>h) (Or.inl ⟨by rfl,fun w=>?_⟩) (Or.inr hS) ?_;rotate_left;focus (go_simp;first|done|with_reducible rfl|exact rfl));(try simp only [Act.put,zA,zB,zC,zD,zE,zF])
          (refine wpG_ldC (i:=5) [8,9,10] (v:=?_) rfl rfl (by kernel_rfl) (by kernel_rfl) (by kernel_rfl) (by kernel_rfl) (fun _ _ _ h=>h) (Or.inl ⟨by rfl,?_⟩) hS ?_;rotate_left;focus (intro w hSw;(try dsimp only at hSw);go_simp;first|done|with_reducible rfl|exact rfl));(try simp only [Act.put,zA,zB,zC,zD,zE,zF])
          (refine wpG_take (i:=6) (v:=?_) rfl rfl (by kernel_rfl) (by kernel_rfl) (by kernel_rfl) (fun _ _ _ h=>h) (Or.inl ⟨by rfl,fun w=>?_⟩) (Or.inr hS) ?_;rotate_left;focus (go_simp;first|done|with_reducible rfl|exact rfl));(try simp only [Act.put,zA,zB,zC,zD,zE,zF])
          (refine wpG_ldC (i:=7) [8,9,10] (v:=?_) rfl rfl (by kernel_rfl) (by kernel_rfl) (by kernel_rfl) (by kernel_rfl) (fun _ _ _ h=>h) (Or.inl ⟨by rfl,?_⟩) hS ?_;rotate_left;focus (intro w hSw;(try dsimp only at hSw);go_simp;first|done|with_reducible rfl|exact rfl));(try simp only [Act.put,zA,zB,zC,zD,zE,zF])
          (refine wpG_take (i:=8) (v:=?_) rfl rfl (by kernel_rfl) (by kernel_rfl) (by kernel_rfl) (fun _ _ _ h=>h) (Or.inl ⟨by rfl,fun w=>?_⟩) (Or.inr hS) ?_;rotate_left;focus (go_simp;first|done|with_reducible rfl|exact rfl));(try simp only [Act.put,zA,zB,zC,zD,zE,zF])
          refine wpG_one (i:=9) (by kernel_rfl) rfl (fun K hK=>?_);have HK:=Lib.hid hK;clear hK
          go_simp
          (with_reducible refine (UP.out _ B0.out.b).mono ?_)
          rintro e w2 ⟨vb,rfl,hv,hb⟩
          have LB:=Lib.hid hv.ld
          have B0:=Lib.hid (B0.out.then hb)
          refine HK.out _ _ (Or.inr ⟨kb_cell B0.out.k0 (i:=1) rfl,kb_cell B0.out.k0 (i:=2) rfl,kb_cell B0.out.k1 (i:=1) rfl,kb_cell B0.out.k1 (i:=2) rfl⟩) ?_
          clear HK K hv hb hS
          (try simp only [Act.put,zA,zB,zC,zD,zE,zF])
          refine wpG_one (i:=10) (by kernel_rfl) rfl (fun K hK=>?_);have HK:=Lib.hid hK;clear hK;go_simp;refine HK.out _ _ (Or.inl (by kernel_rfl)) ?_;clear HK K;(try simp only [Act.put,zA,zB,zC,zD,zE,zF])
          refine wpG_one (i:=11) (by kernel_rfl) rfl (fun K hK=>?_);have HK:=Lib.hid hK;clear hK;go_simp;refine HK.out _ _ (Or.inl (by kernel_rfl)) ?_;clear HK K;(try simp only [Act.put,zA,zB,zC,zD,zE,zF])
          refine wpG_done (by kernel_rfl) ?_ _
          have da0:=kb_cell B0.out.k0 (i:=0) rfl;have da1:=kb_cell B0.out.k0 (i:=1) rfl;have da2:=kb_cell B0.out.k0 (i:=2) rfl;have db0:=kb_cell B0.out.k1 (i:=0) rfl;have db1:=kb_cell B0.out.k1 (i:=1) rfl;have db2:=kb_cell B0.out.k1 (i:=2) rfl;have dc0:=kb_cell B0.out.k2 (i:=0) rfl;have dc1:=kb_cell B0.out.k2 (i:=1) rfl;have dc2:=kb_cell B0.out.k2 (i:=2) rfl;have fr0:=kb_frozen B0.out.k2 0;have fr1:=kb_frozen B0.out.k2 1;have fr2:=kb_frozen B0.out.k2 2
          go_upto_region 12 with (go_at_call 95;(with_reducible refine (CM.out _ B0.out.b _ LB.out).mono ?_);rintro e w3 ⟨rfl,hb⟩;have LB:=Lib.hid (LB.out.below hb);have B0:=Lib.hid (B0.out.then hb);have da0:=kb_cell B0.out.k0 (i:=0) rfl;have da1:=kb_cell B0.out.k0 (i:=1) rfl;have da2:=kb_cell B0.out.k0 (i:=2) rfl;have db0:=kb_cell B0.out.k1 (i:=0) rfl;have db1:=kb_cell B0.out.k1 (i:=1) rfl;have db2:=kb_cell B0.out.k1 (i:=2) rfl;have dc0:=kb_cell B0.out.k2 (i:=0) rfl;have dc1:=kb_cell B0.out.k2 (i:=1) rfl;have dc2:=kb_cell B0.out.k2 (i:=2) rfl;have fr0:=kb_frozen B0.out.k2 0;have fr1:=kb_frozen B0.out.k2 1;have fr2:=kb_frozen B0.out.k2 2;clear hb)
          refine wp_region_G (g:=8) (S:=fun w'=>w'.cell? ⟨W.heap.size + 1,0,none⟩=some (.bool g')∧w'.cell? ⟨W.heap.size,2,none⟩=some (.int .i64 x)) (by kernel_rfl) ?_
          have B1:=Lib.hid B0.out.drew
          have LB1:Hid (Ld _ vb b):=Lib.hid (LB.out.below (bl_drew (Below.refl _ _)))
          obtain ⟨wd,hwd⟩:∃ w,w3.drew=w:=⟨_,rfl⟩
          rw [hwd] at B1 LB1
          rw [hwd]
          clear hwd
          have hS:wd.cell? ⟨W.heap.size + 1,0,none⟩=some (.bool g')∧wd.cell? ⟨W.heap.size,2,none⟩=some (.int .i64 x):=⟨kb_cell B1.out.k1 (i:=0) rfl,kb_cell B1.out.k0 (i:=2) rfl⟩
          (refine wpG_take (i:=0) (v:=?_) rfl rfl (by kernel_rfl) (by kernel_rfl) (by kernel_rfl) (fun _ _ _ h=>h) (Or.inl ⟨by rfl,fun w=>?_⟩) (Or.inr hS) ?_;rotate_left;focus (go_simp;first|done|with_reducible rfl|exact rfl));(try simp only [Act.put,zA,zB,zC,zD,zE,zF])
          (refine wpG_ldC (i:=1) [7,8] (v:=?_) rfl rfl (by kernel_rfl) (by kernel_rfl) (by kernel_rfl) (by kernel_rfl) (fun _ _ _ h=>h) (Or.inl ⟨by rfl,?_⟩) hS ?_;rotate_left;focus (intro w hSw;(try dsimp only at hSw);go_simp;first|done|with_reducible rfl|exact rfl));(try simp only [Act.put,zA,zB,zC,zD,zE,zF])
          (refine wpG_take (i:=2) (v:=?_) rfl rfl (by kernel_rfl) (by kernel_rfl) (by kernel_rfl) (fun _ _ _ h=>h) (Or.inl ⟨by rfl,fun w=>?_⟩) (Or.inr hS) ?_;rotate_left;focus (go_simp;first|done|with_reducible rfl|exact rfl));(try simp only [Act.put,zA,zB,zC,zD,zE,zF]);(refine wpG_take (i:=3) (v:=?_) rfl rfl (by kernel_rfl) (by kernel_rfl) (by kernel_rfl) (fun _ _ _ h=>h) (Or.inl ⟨by rfl,fun w=>?_⟩) (Or.inr hS) ?_;rotate_left;focus (go_simp;first|done|with_reducible rfl|exact rfl));(try simp only [Act.put,zA,zB,zC,zD,zE,zF]);(refine wpG_take (i:=5) (v:=?_) rfl rfl (by kernel_rfl) (by kernel_rfl) (by kernel_rfl) (fun _ _ _ h=>h) (Or.inl ⟨by rfl,fun w=>?_⟩) (Or.inr hS) ?_;rotate_left;focus (go_simp;first|done|with_reducible rfl|exact rfl));(try simp only [Act.put,zA,zB,zC,zD,zE,zF])
          (refine wpG_ldC (i:=6) [7,8] (v:=?_) rfl rfl (by kernel_rfl) (by kernel_rfl) (by kernel_rfl) (by kernel_rfl) (fun _ _ _ h=>h) (Or.inl ⟨by rfl,?_⟩) hS ?_;rotate_left;focus (intro w hSw;(try dsimp only at hSw);go_simp;first|done|with_reducible rfl|exact rfl));(try simp only [Act.put,zA,zB,zC,zD,zE,zF])
          refine wpG_one (i:=4) (by kernel_rfl) rfl (fun K hK=>?_);have HK:=Lib.hid hK;clear hK
          go_simp
          (with_reducible refine (AD.out _ B1.out.b _ LB1.out).mono ?_)
          rintro e w4 ⟨vr,rfl,hv,hb⟩
          obtain ⟨AR,mR,cR,rfl⟩:=hv.ld.slice
          have VR:=Lib.hid hv
          have SZ:=Lib.hid (kb_lt B1.out.k2)
          have B0:=Lib.hid (B1.out.then hb)
          have hS:w4.cell? ⟨W.heap.size + 1,0,none⟩=some (.bool g')∧w4.cell? ⟨W.heap.size,2,none⟩=some (.int .i64 x):=⟨kb_cell B0.out.k1 (i:=0) rfl,kb_cell B0.out.k0 (i:=2) rfl⟩
          refine HK.out _ _ (Or.inr hS) ?_
          clear HK K hv hb
          (try simp only [Act.put,zA,zB,zC,zD,zE,zF])
          have da0:=kb_cell B0.out.k0 (i:=0) rfl;have da1:=kb_cell B0.out.k0 (i:=1) rfl;have da2:=kb_cell B0.out.k0 (i:=2) rfl;have db0:=kb_cell B0.out.k1 (i:=0) rfl;have db1:=kb_cell B0.out.k1 (i:=1) rfl;have db2:=kb_cell B0.out.k1 (i:=2) rfl;have dc0:=kb_cell B0.out.k2 (i:=0) rfl;have dc1:=kb_cell B0.out.k2 (i:=1) rfl;have dc2:=kb_cell B0.out.k2 (i:=2) rfl;have fr0:=kb_frozen B0.out.k2 0;have fr1:=kb_frozen B0.out.k2 1;have fr2:=kb_frozen B0.out.k2 2
          (refine wpG_take (i:=7) (v:=?_) rfl rfl (by kernel_rfl) (by kernel_rfl) (by kernel_rfl) (fun _ _ _ h=>h) (Or.inl ⟨by rfl,fun w=>?_⟩) (Or.inr hS) ?_;rotate_left;focus (go_simp;first|done|with_reducible rfl|exact rfl));(try simp only [Act.put,zA,zB,zC,zD,zE,zF])
          refine wpG_one (i:=8) (by kernel_rfl) rfl (fun K hK=>?_);have HK:=Lib.hid hK;clear hK;go_simp;refine HK.out _ _ (Or.inl (by kernel_rfl)) ?_;clear HK K;(try simp only [Act.put,zA,zB,zC,zD,zE,zF])
          refine wpG_done (by kernel_rfl) ?_ _
          go_wp2
          obtain ⟨z0,z1,z2,z3⟩:=B0.out.fin g' (.slice AR mR cR) x
          refine bodyPost_ret (v:=.agg #[.bool g',(.slice AR mR cR),.int .i64 x]) (by simp [results,Tryz.results55,go_sem,z0,z1,z2]) rfl ?_
          exact ⟨_,rfl,⟨_,rfl,B0.out.lo SZ.out g' VR.out⟩,z3⟩
end Go.Proofs.YtmndoelimincdaaGreatDoor
namespace Go.Proofs.YtmndoelimincdaaGreatDoor
open Go Go.RowKit Nv
open Go.Proofs.YtmndoelimincdaaGreatDoorW.PrintWords (Kd)
set_option maxRecDepth 100000
set_option linter.unusedSimpArgs false
theorem lk_at {w:World} {A:Option Addr} {l:List Int} (h:Kd.C (Kd.int .u64) w A l.length l) {i:Nat} (hi:i < l.length):∃ ad,A=some ad∧w.cell? (ad.add i)=some (.int .u64 l[i]):=by
  obtain ⟨ad,e,hc⟩:=h.2.2 (by omega)
  obtain ⟨cs,_,hK,hcs⟩:=hc i _ (List.getElem?_eq_getElem hi)
  have hK:cs=[.int .u64 l[i]]:=hK
  subst hK
  have:=hcs 0 _ rfl
  rw [show (Kd.int .u64).sz=1 from rfl] at this
  exact ⟨ad,e,by simpa using this⟩
theorem lk_mk {w:World} {A:Option Addr} {l:List Int} (hl:l.length≤9223372036854775807) (h:0 < l.length→∃ ad,A=some ad∧∀ i (hi:i < l.length),w.cell? (ad.add i)=some (.int .u64 l[i])):Kd.C (Kd.int .u64) w A l.length l:=by
  refine ⟨rfl,hl,fun h0=>?_⟩
  obtain ⟨ad,e,hc⟩:=h h0
  refine ⟨ad,e,fun j p hp=>⟨[.int .u64 p],rfl,rfl,fun i u hu=>?_⟩⟩
  have hj:=(List.getElem?_eq_some_iff.1 hp).1
  have hv:=(List.getElem?_eq_some_iff.1 hp).2
  have hi:i=0:=by have:=(List.getElem?_eq_some_iff.1 hu).1;simpa using this
  subst hi
  have:u=.int .u64 p:=by simpa using hu.symm
  rw [this,show (Kd.int .u64).sz=1 from rfl,Nat.mul_one,Nat.add_zero,← hv]
  exact hc j hj
theorem Ld.setc {w:World} {v:Value} {n:Int} (h:Ld w v n) {p:Addr} {c:Value} (hp:w.cell? p=some c) (hc:∀ z,c ≠ .int .u64 z) (u:Value):Ld (w.setCell p u) v n:=by
  obtain ⟨A,d,l,rfl,hl,hC,hN,hn⟩:=h
  refine ⟨A,d,l,rfl,hl,lk_mk hC.2.1 (fun h0=>?_),hN,hn⟩
  obtain ⟨ad,e,_⟩:=lk_at hC h0
  refine ⟨ad,e,fun i hi=>?_⟩
  obtain ⟨ad',e',hx⟩:=lk_at hC hi
  rw [e] at e'
  injection e' with e'
  subst e'
  have hne:p ≠ ad.add i:=fun e=>by rw [e,hx] at hp;injection hp with hp;exact hc _ hp.symm
  exact (World.cell?_setCell_other _ _ _ _ hne).trans hx
set_option maxHeartbeats 8000000 in
theorem plus2 {W:World} {u v:Value} {g g':Bool} {m m' x x':Int} (h:Nu W u g m x) (k:Nu W v g' m' x') (hs:Sl m) (ks:Sl m') (kb:Sl (m * 2 ^ (x - x').toNat)) (hx:x≤1000000) (kx:-1000000≤x') (hlt:x' < x) (h1:m ≠ 0) (h2:m' ≠ 0) :
    Calls Tryz.prog 55 #[u,v] W (PPost (plusR g' m' x' g m x) W):=by
  have ZX:Hid (∀ w,Below W.heap.size W w→Calls Tryz.prog 92 #[u] w fun e w'=>e=.returned (.bool (zeroB m))∧Below w.heap.size w w'):=Lib.hid (fun w hb=>zero_d (h.below hb) hs)
  have ZY:Hid (∀ w,Below W.heap.size W w→Calls Tryz.prog 92 #[v] w fun e w'=>e=.returned (.bool (zeroB m'))∧Below w.heap.size w w'):=Lib.hid (fun w hb=>zero_d (k.below hb) ks)
  have PL:Hid (∀ w,Below W.heap.size W w→Calls Tryz.prog 55 #[v,u] w (PPost (plusR g' m' x' g m x) w)):=Lib.hid (fun w hb=>plus1 (k.below hb) (h.below hb) ks hs kb kx hx (fun _ _=>by omega))
  obtain ⟨⟨g3,m3,x3⟩,hr⟩:∃ r,plusR g' m' x' g m x=r:=⟨_,rfl⟩
  rw [hr] at PL ⊢
  obtain ⟨u,rfl,A,c,l,rfl,hl,hC,hN,rfl⟩:=h
  obtain ⟨v,rfl,B,d,l',rfl,kl,kC,kN,rfl⟩:=k
  obtain ⟨M,hM⟩:∃ M,lv l=M:=⟨_,rfl⟩
  obtain ⟨M',hM'⟩:∃ M,lv l'=M:=⟨_,rfl⟩
  rw [hM] at ZX h1
  rw [hM'] at ZY h2
  have q1:zeroB M=false:=decide_eq_false h1
  have q2:zeroB M'=false:=decide_eq_false h2
  rw [q1] at ZX
  rw [q2] at ZY
  have c5:decide (x' < x)=true:=decide_eq_true hlt
  have B0:=Lib.hid (bx_new W #[.bool g,.slice A l.length c,.int .i64 x] #[.bool g',.slice B l'.length d,.int .i64 x'])
  clear hl hC hN kl kC kN hM hM' q1 q2 h1 h2 hlt hr hs ks kb hx kx
  have b0:=B0
  have da0:=kb_cell b0.out.k0 (i:=0) rfl;have da1:=kb_cell b0.out.k0 (i:=1) rfl;have da2:=kb_cell b0.out.k0 (i:=2) rfl
  have db0:=kb_cell b0.out.k1 (i:=0) rfl;have db1:=kb_cell b0.out.k1 (i:=1) rfl;have db2:=kb_cell b0.out.k1 (i:=2) rfl
  clear b0
  go_enter Tryz.func55,Tryz.ntmps55
  go_wp2_with (first
    | (go_at_call 92;(with_reducible (first|refine (ZX.out _ B0.out.b).mono ?_|refine (ZY.out _ B0.out.b).mono ?_));rintro e w1 ⟨rfl,hb⟩;have B0:=Lib.hid (B0.out.then hb);have da0:=kb_cell B0.out.k0 (i:=0) rfl;have da1:=kb_cell B0.out.k0 (i:=1) rfl;have da2:=kb_cell B0.out.k0 (i:=2) rfl;have db0:=kb_cell B0.out.k1 (i:=0) rfl;have db1:=kb_cell B0.out.k1 (i:=1) rfl;have db2:=kb_cell B0.out.k1 (i:=2) rfl;clear hb)
    | (go_at_call 55;(with_reducible refine (PL.out _ B0.out.b).mono ?_);rintro e w2 ⟨vr,rfl,hv,hb⟩;obtain ⟨ur,rfl,hu⟩:=hv;obtain ⟨AR,mR,cR,rfl⟩:=hu.slice;have HU:=Lib.hid hu;have B0:=Lib.hid (B0.out.then hb);have dc0:=kb_cell B0.out.k2 (i:=0) rfl;have dc1:=kb_cell B0.out.k2 (i:=1) rfl;have dc2:=kb_cell B0.out.k2 (i:=2) rfl;have fr0:=kb_frozen B0.out.k2 0;have fr1:=kb_frozen B0.out.k2 1;have fr2:=kb_frozen B0.out.k2 2;clear hb hu))
  obtain ⟨z0,z1,z2,z3⟩:=B0.out.fin g3 (.slice AR mR cR) x3
  refine bodyPost_ret (v:=.agg #[.bool g3,.slice AR mR cR,.int .i64 x3]) (by simp [results,Tryz.results55,go_sem,z0,z1,z2]) rfl ?_
  refine ⟨_,rfl,⟨_,rfl,?_⟩,z3⟩
  have y0:=hp_set B0.out.k2 0 (.bool g3)
  have y1:=hp_set y0 1 (.slice AR mR cR)
  exact ((HU.out.setc (kb_cell B0.out.k2 (i:=0) rfl) (fun z h=>by cases h) (.bool g3)).setc (kb_cell y0 (i:=1) rfl) (fun z h=>by cases h) (.slice AR mR cR)).setc (kb_cell y1 (i:=2) rfl) (fun z h=>by cases h) (.int .i64 x3)
end Go.Proofs.YtmndoelimincdaaGreatDoor
namespace Go.Proofs.YtmndoelimincdaaGreatDoor
open Go Go.RowKit Nv
open Go.Proofs.YtmndoelimincdaaGreatDoorW.PrintWords (Kd)
set_option maxRecDepth 100000
def nz (g:Bool) (m:Int):Int:=if g=true then -m else m
theorem nz_mul (g g':Bool) (m m':Int):nz (g != g') (m * m')=nz g m * nz g' m':=by
  cases g <;> cases g' <;> simp [nz,Int.neg_mul,Int.mul_neg]
theorem nz_not (g:Bool) (m:Int):nz (!g) m=-nz g m:=by cases g <;> simp [nz]
theorem nz_mulr (g:Bool) (m c:Int):nz g (m * c)=nz g m * c:=by cases g <;> simp [nz,Int.neg_mul]
theorem nz_abs (g:Bool) {m:Int} (_:0≤m):(nz g m).natAbs=m.natAbs:=by cases g <;> simp [nz]
def NS (w:World) (v:Value) (k:Nat) (E:Int) (z:Int):Prop:=∃ g m x,Nu w v g m x∧0≤m∧-(k:Int)≤x∧x≤E∧nz g m * 2 ^ (x + k).toNat=z
def Sz (z:Int):Prop:=(z.natAbs:Int) < ls 1000000
def ZPost (k:Nat) (E z:Int) (w:World) (e:Ending) (w':World):Prop:=∃ v,e=.returned v∧NS w' v k E z∧Below w.heap.size w w'
theorem NS.below {w w':World} {v:Value} {k:Nat} {E z:Int} (h:NS w v k E z) (hb:Below w.heap.size w w'):NS w' v k E z:=by
  obtain ⟨g,m,x,h1,h2⟩:=h
  exact ⟨g,m,x,h1.below hb,h2⟩
theorem Nu.pos {w:World} {v:Value} {g:Bool} {m x:Int} (h:Nu w v g m x):0≤m:=by
  obtain ⟨_,_,h1⟩:=h
  exact h1.nonneg
theorem p2i_pos (n:Nat):(1:Int)≤2 ^ n:=by
  have:=Int.pow_pos (n:=2) (m:=n) (by decide)
  omega
theorem le_scaled {m:Int} (h:0≤m) (n:Nat):m≤m * 2 ^ n:=by
  have:=Int.mul_le_mul_of_nonneg_left (p2i_pos n) h
  omega
theorem NS.small {g:Bool} {m x:Int} {k:Nat} {z:Int} (hm:0≤m) (hz:nz g m * 2 ^ (x + k).toNat=z) (hs:Sz z):Sl m:=by
  unfold Sz at hs
  unfold Sl
  have h1:=le_scaled hm (x + k).toNat
  have h2:((nz g m * 2 ^ (x + k).toNat).natAbs:Int)=m * 2 ^ (x + k).toNat:=by
    rw [Int.natAbs_mul,nz_abs g hm]
    have h3:=p2i_pos (x + k).toNat
    push_cast
    rw [Int.natAbs_of_nonneg hm,Int.natAbs_of_nonneg (by omega:(0:Int)≤2 ^ (x + k).toNat)]
  rw [← hz,h2] at hs
  omega
theorem times_s {w:World} {u v:Value} {k k':Nat} {E E' z z':Int} (h:NS w u k E z) (h':NS w v k' E' z') (hs:Sz z) (hs':Sz z') (hk:k≤1000000) (hk':k'≤1000000) (hE:E≤1000000) (hE':E'≤1000000) :
    Calls Tryz.prog 45 #[u,v] w (ZPost (k + k') (E + E') (z * z') w):=by
  obtain ⟨g,m,x,h1,h2,h3,h4,h5⟩:=h
  obtain ⟨g',m',x',j1,j2,j3,j4,j5⟩:=h'
  refine (times_d h1 j1 (NS.small h2 h5 hs) (NS.small j2 j5 hs') (by omega) (by omega)).mono ?_
  rintro e w' ⟨r,rfl,hr,hb⟩
  refine ⟨r,rfl,⟨_,_,_,hr,Int.mul_nonneg h2 j2,by push_cast;omega,by omega,?_⟩,hb⟩
  rw [nz_mul,← h5,← j5,show (x + x' + ((k + k':Nat):Int)).toNat=(x + k).toNat + (x' + k').toNat by omega,Int.pow_add]
  ac_rfl
theorem minus_s {w:World} {u:Value} {k:Nat} {E z:Int} (h:NS w u k E z):Calls Tryz.prog 104 #[u] w (ZPost k E (-z) w):=by
  obtain ⟨g,m,x,h1,h2,h3,h4,h5⟩:=h
  refine (minus_d h1).mono ?_
  rintro e w' ⟨r,rfl,hr,hb⟩
  exact ⟨r,rfl,⟨_,_,_,hr,h2,h3,h4,by rw [nz_not,Int.neg_mul,h5]⟩,hb⟩
def sgZ (z:Int):Int:=if z=0 then 0 else if z < 0 then -1 else 1
theorem sign_s {w:World} {u:Value} {k:Nat} {E z:Int} (h:NS w u k E z) (hs:Sz z):Calls Tryz.prog 56 #[u] w fun e w'=>e=.returned (.int .i64 (sgZ z))∧Below w.heap.size w w':=by
  obtain ⟨g,m,x,h1,h2,h3,h4,h5⟩:=h
  have e:sgnB g m=sgZ z:=by
    have hp:=p2i_pos (x + k).toNat
    unfold sgnB sgZ
    rw [← h5]
    by_cases h0:m=0
    · rw [if_pos h0,if_pos (by rw [h0];cases g <;> simp [nz])]
    · have hm:0 < m * 2 ^ (x + k).toNat:=Int.mul_pos (by omega) (by omega)
      rw [if_neg h0]
      cases g
      · rw [if_neg (by simp),show nz false m=m from rfl,if_neg (by omega),if_neg (by omega)]
      · rw [if_pos rfl,show nz true m=-m from rfl,Int.neg_mul,if_neg (by omega),if_pos (by omega)]
  rw [← e]
  exact sign_d h1 (NS.small h2 h5 hs)
theorem plus_r {w:World} {v:Value} {g g':Bool} {m m' x x':Int} {k:Nat} {E:Int} (h1:0≤m) (h2:0≤m') (h3:-(k:Int)≤x) (h4:x≤E) (h5:-(k:Int)≤x') (h6:x'≤E) (hle:m ≠ 0→m' ≠ 0→x≤x')
    (hr:Nu w v (plusR g m x g' m' x').1 (plusR g m x g' m' x').2.1 (plusR g m x g' m' x').2.2):NS w v k E (nz g m * 2 ^ (x + k).toNat + nz g' m' * 2 ^ (x' + k).toNat):=by
  have zero:∀ g:Bool,nz g 0=0:=fun g=>by cases g <;> simp [nz]
  unfold plusR at hr
  by_cases c1:m=0
  · rw [if_pos c1] at hr
    rw [c1,zero,Int.zero_mul,Int.zero_add]
    exact ⟨_,_,_,hr,h2,h5,h6,rfl⟩
  · rw [if_neg c1] at hr
    by_cases c2:m'=0
    · rw [if_pos c2] at hr
      rw [c2,zero,Int.zero_mul,Int.add_zero]
      exact ⟨_,_,_,hr,h1,h3,h4,rfl⟩
    · rw [if_neg c2] at hr
      have hx:=hle c1 c2
      have ep:(2:Int) ^ (x' + k).toNat=2 ^ (x' - x).toNat * 2 ^ (x + k).toNat:=by rw [← Int.pow_add];congr 1;omega
      have hb:0≤m' * 2 ^ (x' - x).toNat:=Int.mul_nonneg h2 (by have:=p2i_pos (x' - x).toNat;omega)
      rw [ep,← Int.mul_assoc,show nz g' m' * 2 ^ (x' - x).toNat=nz g' (m' * 2 ^ (x' - x).toNat) from (nz_mulr _ _ _).symm,← Int.add_mul]
      generalize m' * 2 ^ (x' - x).toNat=b at *
      by_cases c3:g=g'
      · rw [if_pos c3] at hr
        subst c3
        exact ⟨_,_,_,hr,by show 0≤m + b;omega,h3,h4,by show nz g (m + b) * _=_;congr 1;cases g <;> simp [nz];omega⟩
      · rw [if_neg c3] at hr
        by_cases c4:b≤m
        · rw [if_pos c4] at hr
          exact ⟨_,_,_,hr,by show 0≤m - b;omega,h3,h4,by show nz g (m - b) * _=_;congr 1;cases g <;> cases g' <;> simp [nz] at c3 ⊢ <;> omega⟩
        · rw [if_neg c4] at hr
          exact ⟨_,_,_,hr,by show 0≤b - m;omega,h3,h4,by show nz g' (b - m) * _=_;congr 1;cases g <;> cases g' <;> simp [nz] at c3 ⊢ <;> omega⟩
theorem plus_s {w:World} {u v:Value} {k:Nat} {E z z':Int} (h:NS w u k E z) (h':NS w v k E z') (hs:Sz z) (hs':Sz z') (hk:k≤1000000) (hE:E≤1000000) :
    Calls Tryz.prog 55 #[u,v] w (ZPost k E (z + z') w):=by
  have big:∀ (g:Bool) (m x x' z:Int),0≤m→-(k:Int)≤x'→-(k:Int)≤x→nz g m * 2 ^ (x + k).toNat=z→Sz z→Sl (m * 2 ^ (x - x').toNat):=fun g m x x' z hm h1 h2 hz hsz=>by
    have e1:m * 2 ^ (x - x').toNat≤m * 2 ^ (x + k).toNat:=Int.mul_le_mul_of_nonneg_left (by
      have:(2:Int) ^ (x + k).toNat=2 ^ (x - x').toNat * 2 ^ ((x + k).toNat - (x - x').toNat):=by rw [← Int.pow_add];congr 1;omega
      rw [this]
      exact le_scaled (by have:=p2i_pos (x - x').toNat;omega) _) hm
    have e2:Sl (m * 2 ^ (x + k).toNat):=by
      refine NS.small (g:=g) (x:=-(k:Int)) (k:=k) (z:=z) (Int.mul_nonneg hm (by have:=p2i_pos (x + k).toNat;omega)) ?_ hsz
      rw [show (-(k:Int) + k).toNat=0 by omega,Int.pow_zero,Int.mul_one,nz_mulr,hz]
    unfold Sl at *
    omega
  obtain ⟨g,m,x,h1,h2,h3,h4,h5⟩:=h
  obtain ⟨g',m',x',j1,j2,j3,j4,j5⟩:=h'
  have s1:=NS.small h2 h5 hs
  have s2:=NS.small j2 j5 hs'
  by_cases hc:m ≠ 0→m' ≠ 0→x≤x'
  · refine (plus1 h1 j1 s1 s2 (big g' m' x' x z' j2 h3 j3 j5 hs') (by omega) (by omega) hc).mono ?_
    rintro e w' ⟨r,rfl,hr,hb⟩
    exact ⟨r,rfl,by rw [← h5,← j5];exact plus_r h2 j2 h3 h4 j3 j4 hc hr,hb⟩
  · have c1:m ≠ 0:=fun e=>hc (fun h=>absurd e h)
    have c2:m' ≠ 0:=fun e=>hc (fun _ h=>absurd e h)
    have c3:x' < x:=by
      rcases Int.lt_or_le x' x with h|h
      · exact h
      · exact absurd (fun _ _=>h) hc
    refine (plus2 h1 j1 s1 s2 (big g m x x' z h2 j3 h3 h5 hs) (by omega) (by omega) c3 c1 c2).mono ?_
    rintro e w' ⟨r,rfl,hr,hb⟩
    refine ⟨r,rfl,?_,hb⟩
    rw [← h5,← j5,Int.add_comm]
    exact plus_r j2 h2 j3 j4 h3 h4 (fun _ _=>by omega) hr
end Go.Proofs.YtmndoelimincdaaGreatDoor
namespace Go.Proofs.YtmndoelimincdaaGreatDoor.XRf
open Go Go.RowKit Nv Go.Proofs.YtmndoelimincdaaGreatDoor
set_option maxRecDepth 100000
theorem bits_l1:∀ (n:Nat) (x y:Int) k,0≤y→y < (2:Int) ^ n→n≤64→0≤x→x≤4611686018427387904 - n→n < k→girderref00_NatBits.l0 k x y=some (x + (bl y.toNat:Int)):=by
  intro n
  induction n with
  | zero =>
    intro x y k y0 y1 _ x0 x1 hk
    obtain ⟨k,rfl⟩:∃ m,k=m + 1:=⟨k - 1,by omega⟩
    have:y=0:=by simp at y1;omega
    simp only [girderref00_NatBits.l0]
    rw [if_neg (by omega),this]
    simp [bl]
  | succ n ih =>
    intro x y k y0 y1 hn x0 x1 hk
    obtain ⟨k,rfl⟩:∃ m,k=m + 1:=⟨k - 1,by omega⟩
    simp only [girderref00_NatBits.l0]
    by_cases h:y > 0
    · have hw:wrap64 (x + 1)=x + 1:=by unfold wrap64;omega
      have hy:y < 18446744073709551616:=by
        have h1:(2:Nat) ^ (n + 1)≤2 ^ 64:=Nat.pow_le_pow_right (by decide) hn
        have h3:((2 ^ (n + 1):Nat):Int)=(2:Int) ^ (n + 1):=by push_cast;rfl
        have h4:(2:Nat) ^ 64=18446744073709551616:=by decide
        omega
      have e2:IntKind.u64.wrap (Int.tdiv y 2)=y / 2:=by rw [Int.tdiv_eq_ediv_of_nonneg y0,IntKind.wrap_u64];omega
      rw [Int.pow_succ] at y1
      rw [if_pos h,hw,e2,ih (x + 1) (y / 2) k (by omega) (by omega) (by omega) (by omega) (by omega) (by omega)]
      congr 1
      have e3:=bl_pos (n:=y.toNat) (by omega)
      have e4:(y / 2).toNat=y.toNat / 2:=by omega
      rw [e4,e3]
      push_cast
      omega
    · rw [if_neg h]
      have:y=0:=by omega
      rw [this]
      simp [bl]
theorem ls_nat (n:Nat):ls n=((4294967296 ^ (2 * n):Nat):Int):=by
  unfold ls
  rw [Nat.pow_mul,Int.natCast_pow];rfl
theorem bl_limb {l:List Int} (h:Nl l) (h0:l ≠ []):bl (lv l).toNat=64 * (l.length - 1) + bl (l.getLast h0).toNat:=by
  have e:lv l=lv l.dropLast + ls (l.length - 1) * l.getLast h0:=by
    conv=>lhs;rw [← List.dropLast_concat_getLast h0,lv_app]
    rw [lv_cons,lv_nil,List.length_dropLast];simp
  have hd:Lm l.dropLast:=fun d hd=>h.1 d ((List.dropLast_sublist l).subset hd)
  have a1:=lv_nonneg hd
  have a2:=lv_lt hd
  rw [List.length_dropLast] at a2
  have a3:=h.1 _ (List.getLast_mem h0)
  have a4:=h.2 h0
  have hp:0 < 4294967296 ^ (2 * (l.length - 1)):=Nat.pow_pos (by decide)
  rw [ls_nat] at e a2
  obtain ⟨D,hD⟩:∃ D:Nat,l.getLast h0=(D:Int):=⟨(l.getLast h0).toNat,(Int.toNat_of_nonneg a3.1).symm⟩
  obtain ⟨M,hM⟩:∃ M:Nat,lv l.dropLast=(M:Int):=⟨(lv l.dropLast).toNat,(Int.toNat_of_nonneg a1).symm⟩
  rw [hD] at e a4
  rw [hM] at e a2
  rw [hD,Int.toNat_natCast]
  have e2:(lv l).toNat=M + 4294967296 ^ (2 * (l.length - 1)) * D:=by rw [e];omega
  have:=bl_top (x:=(lv l).toNat) (t:=D) (i:=2 * (l.length - 1)) (by omega) (by
    rw [e2,Nat.add_mul_div_left _ _ hp,Nat.div_eq_of_lt (by omega),Nat.zero_add])
  rw [this];omega
theorem natBits_e (a:List Int) (ha:Lm a) (la:a.length≤68719476736):girderref00_NatBits.f K0 a=some ((bl (lv a).toNat:Nat):Int):=by
  obtain ⟨t,h1,h2,h3,h4⟩:=ntrim_f a ha (by omega) K0 (K0_ge (by omega))
  unfold girderref00_NatBits.f
  rw [h1,Option.bind_some,← h2]
  by_cases h0:t=[]
  · subst h0
    rw [if_pos (by simp)]
    simp [lv_nil,bl]
  · have h0':t.length ≠ 0:=fun e=>h0 (List.eq_nil_of_length_eq_zero e)
    have hw:wrap64 ((t.length:Int) - 1)=((t.length - 1:Nat):Int):=by unfold wrap64;omega
    have hw2:wrap64 (64 * ((t.length - 1:Nat):Int))=64 * ((t.length - 1:Nat):Int):=by unfold wrap64;omega
    have hlt:t.length - 1 < t.length:=by omega
    have hd:=h3.1.at hlt
    rw [if_neg (by omega),hw,hw2,if_pos (by omega),if_pos (by omega),rd_nat hlt]
    rw [bits_l1 64 (64 * ((t.length - 1:Nat):Int)) t[t.length - 1] K0 hd.1 (by rw [show (2:Int) ^ 64=18446744073709551616 by decide];exact hd.2) (by omega) (by omega) (by omega) (K0_ge (n:=65) (by decide))]
    congr 1
    rw [bl_limb h3 h0,List.getLast_eq_getElem]
    push_cast
    rfl
end Go.Proofs.YtmndoelimincdaaGreatDoor.XRf
namespace Go.Proofs.YtmndoelimincdaaGreatDoor
open Go Go.RowKit Nv
open Go.Proofs.YtmndoelimincdaaGreatDoorW.PrintWords (Kd own_move own_ne own_lt own_base own_typed)
open XBn
set_option maxRecDepth 100000
set_option linter.unusedSimpArgs false
theorem lbs_len:∀ {k m:Nat},m < 2 ^ (64 * k)→(lbs m).length≤k
  | 0,m,h=>by
    have:m=0:=by simpa using h
    rw [this,lbs_zero];simp
  | k + 1,m,h=>by
    by_cases h0:m=0
    · rw [h0,lbs_zero];simp
    · rw [lbs_pos h0,List.length_cons]
      have:m / 18446744073709551616 < 2 ^ (64 * k):=by
        rw [Nat.div_lt_iff_lt_mul (by decide)]
        have e:2 ^ (64 * (k + 1))=2 ^ (64 * k) * 18446744073709551616:=by rw [Nat.mul_succ,Nat.pow_add]
        omega
      have:=lbs_len this
      omega
set_option maxHeartbeats 4000000 in
theorem made_g {W:World} {x k:Nat} {v exp:Int} (hx:IntAt W x v) (h0:v ≠ 0) (hs:v.natAbs < 2 ^ (64 * k)) (hk:k≤256) (he1:-30000≤exp) (he2:exp≤30000) :
    Calls Tryz.prog 89 #[pt x,.int .i64 exp] W fun e w'=>∃ (n:Nat) (vv:Value),tz v.natAbs n∧e=.returned (.tuple #[.agg #[.bool (decide (v < 0)),vv,.int .i64 (exp + n)],.int .i64 0])∧w'.ownsRow W.heap.size 38 1 vv (lbs (v.natAbs / 2 ^ n)).length (U6 (lbs (v.natAbs / 2 ^ n)))∧Below W.heap.size W w':=by
  have sm:Sm (v.natAbs:Int):=sm_pw hs (by omega)
  have bl64:bl v.natAbs≤16384:=Nat.le_trans (bl_le_of hs) (by omega)
  have X0:=Lib.hid (hx.alloc nilD)
  have B0:=Lib.hid (bl_alloc (Below.refl W.heap.size W) nilD)
  have K0:=Lib.hid (kb_new (w:=W) (o:=nilD) (Below.refl _ _))
  have SG:Hid (∀ w,IntAt w x v→Calls Tryz.prog 86 #[pt x] w fun e w'=>e=.returned (.int .i64 (sgnI v))∧w=w'):=Lib.hid (fun w h=>isign_c h)
  have TZ:Hid (∀ w,IntAt w x v→Calls Tryz.prog 125 #[pt x] w fun e w'=>∃ n:Nat,e=.returned (.int .u64 n)∧tz v.natAbs n∧n < bl v.natAbs∧Below w.heap.size w w'):=Lib.hid (fun w h=>tzb_c h sm h0 (by omega))
  have BLN:Hid (∀ w,IntAt w x v→Calls Tryz.prog 126 #[pt x] w fun e w'=>e=.returned (.int .i64 (bl v.natAbs))∧Below w.heap.size w w'):=Lib.hid (fun w h=>bitlen_c h sm)
  have s0:(sgnI v == 0)=false:=by unfold sgnI;rw [beq_eq_false_iff_ne];(repeat' split) <;> omega
  have s1:decide (sgnI v < 0)=decide (v < 0):=by unfold sgnI;by_cases h:v < 0 <;> simp [h] <;> split <;> simp
  have AB:Hid (∀ w z u,IntAt w z u→IntAt w x v→Calls Tryz.prog 78 #[pt z,pt x] w (GPost z (v.natAbs:Int) w)):=Lib.hid (fun w z u h1 h2=>iabs_c h1 h2 sm)
  obtain ⟨m,hm⟩:∃ m,v.natAbs=m:=⟨_,rfl⟩
  obtain ⟨ng,hng⟩:∃ b,decide (v < 0)=b:=⟨_,rfl⟩
  rw [hm] at hs sm bl64 TZ BLN AB ⊢
  rw [hng] at s1 ⊢
  obtain ⟨S,hS⟩:∃ S,sgnI v=S:=⟨_,rfl⟩
  rw [hS] at s0 s1 SG
  have RS:Hid (∀ w z y u n,n≤16384→IntAt w z u→IntAt w y (m:Int)→Calls Tryz.prog 82 #[pt z,pt y,.int .u64 (n:Nat)] w (GPost z ((m / 2 ^ n:Nat):Int) w)):=Lib.hid (fun w z y u n hn h1 h2=>by
    have:=rsh_c h1 h2 (by simpa using sm) (Int.natCast_nonneg _) n (by omega)
    rw [Int.toNat_natCast] at this
    exact this)
  have LM:Hid (∀ (w:World) (z M:Nat),M < 2 ^ (64 * k)→IntAt w z (M:Int)→Calls Tryz.prog 127 #[pt z] w fun e w'=>∃ vv,e=.returned vv∧w'.ownsRow w.heap.size 38 1 vv (lbs M).length (U6 (lbs M))∧Below w.heap.size w w'):=Lib.hid (fun w z M hl h=>limbs_c (v:=(M:Int)) (k:=k) h (by simpa using hl) (by omega) (Nat.le_trans (lbs_len hl) (by omega)))
  have DL:Hid (∀ n,m / 2 ^ n < 2 ^ (64 * k)):=Lib.hid (fun n=>Nat.lt_of_le_of_lt (Nat.div_le_self ..) hs)
  have BL:=Lib.hid bl64
  have k1:decide ((65536:Int) < exp)=false:=decide_eq_false (by omega)
  have HE:=Lib.hid (And.intro he1 he2)
  clear hx h0 hs sm bl64 hm hng hS he1 he2 hk
  go_enter Tryz.func89,Tryz.ntmps89
  go_upto_region 4 with (first
    | (go_at_call 86;(with_reducible refine (SG.out _ X0.out).mono ?_);rintro e w4 ⟨rfl,rfl⟩)
    | (go_at_call 125;(with_reducible refine (TZ.out _ X0.out).mono ?_);rintro e w1 ⟨n,rfl,hz,hn,hb⟩;have T:=Lib.hid hz;have NB:=Lib.hid hn;have X1:=Lib.hid (X0.out.below hb);have B1:=Lib.hid (bl_then B0.out hb);have K1:=Lib.hid (kb_keep hb K0.out);clear hz hn hb))
  have hn64:n≤16384:=by have:=NB.out;have:=BL.out;omega
  have hb64:=BL.out
  have he:=HE.out
  have wn:wrap64 (n:Int)=(n:Int):=by unfold wrap64;omega
  have wn2:IntKind.u64.wrap (n:Int)=(n:Int):=by clear wn;rw [IntKind.wrap_u64];omega
  have wn3:wrap64 (-65536 - (n:Int))=-65536 - (n:Int):=by clear wn wn2;unfold wrap64;omega
  have wn4:wrap64 (exp + (n:Int))=exp + (n:Int):=by clear wn wn2 wn3;unfold wrap64;omega
  have wn5:wrap64 ((bl m:Int) - (n:Int))=(bl m:Int) - (n:Int):=by clear wn wn2 wn3 wn4;unfold wrap64;omega
  have k2:decide (exp < -65536 - (n:Int))=false:=by clear wn wn2 wn3 wn4 wn5;exact decide_eq_false (by omega)
  have k3:decide ((65536:Int) < exp + (n:Int))=false:=by clear wn wn2 wn3 wn4 wn5;exact decide_eq_false (by omega)
  have k4:decide ((16384:Int) < (bl m:Int) - (n:Int))=false:=by clear wn wn2 wn3 wn4 wn5;exact decide_eq_false (by omega)
  have HN:=Lib.hid hn64
  clear hn64 hb64 he
  simp only [wn]
  go_upto_region 9 with (first
    | (go_at_call 126;(with_reducible refine (BLN.out _ X1.out).mono ?_);rintro e w2 ⟨rfl,hb⟩;have X2:=Lib.hid (X1.out.below hb);have B2:=Lib.hid (bl_then B1.out hb);have K2:=Lib.hid (kb_keep hb K1.out);clear hb))
  have Z1:Hid (IntAt ((w2.alloc nilI).alloc nilI) w2.heap.size 0):=Lib.hid ((IntAt.zero w2).alloc _)
  have Z2:Hid (IntAt ((w2.alloc nilI).alloc nilI) (w2.heap.size + 1) 0):=Lib.hid (by have:=IntAt.zero (w2.alloc nilI);simpa using this)
  have X3:=Lib.hid ((X2.out.alloc nilI).alloc nilI)
  have B3:=Lib.hid (bl_alloc (bl_alloc B2.out nilI) nilI)
  have K3:=Lib.hid (kb_alloc (o':=nilI) (kb_alloc (o':=nilI) K2.out))
  have NW:=Lib.hid (kb_lt K2.out)
  have S2:=Lib.hid B2.out.size
  go_wp2_with (first
    | (go_at_call 86;(with_reducible refine (SG.out _ X2.out).mono ?_);rintro e w4 ⟨rfl,rfl⟩)
    | (go_at_call 78;(with_reducible refine (AB.out _ _ _ Z2.out X3.out).mono ?_);rintro e w4 ⟨rfl,hI,hz⟩;have Ia:=Lib.hid hI;have Z1:=Lib.hid (Z1.out.keep Z2.out (Nat.ne_of_lt (Nat.lt_succ_self _)) hz);have B4:=Lib.hid (Bz.below B3.out hz B3.out.size (by have:=S2.out;omega));have K4:=Lib.hid ((hz.block W.heap.size (kb_lt K3.out) (by have:=NW.out;omega)).trans K3.out);clear hI hz)
    | (go_at_call 82;(with_reducible refine (RS.out _ _ _ _ _ HN.out Z1.out Ia.out).mono ?_);rintro e w5 ⟨rfl,hI,hz⟩;have Ir:=Lib.hid hI;have B5:=Lib.hid (Bz.below B4.out hz B4.out.size S2.out);have K5:=Lib.hid ((hz.block W.heap.size (kb_lt K4.out) (by have:=NW.out;omega)).trans K4.out);clear hI hz)
    | (go_at_call 127;(with_reducible refine (LM.out _ _ _ (DL.out n) Ir.out).mono ?_);rintro e w6 ⟨vv,rfl,hO,hb⟩;obtain ⟨A6,c6,rfl⟩:=own_sl6 hO;have O6:=Lib.hid (own_low hO B5.out.size);have B6:=Lib.hid (bl_then B5.out hb);have K6:=Lib.hid (kb_keep hb K5.out);have d0:=kb_cell K6.out (i:=0) rfl;have d1:=kb_cell K6.out (i:=1) rfl;have d2:=kb_cell K6.out (i:=2) rfl;have f0:=kb_frozen K6.out 0;have f1:=kb_frozen K6.out 1;have f2:=kb_frozen K6.out 2;clear hO hb))
  have y0:=rw_setc K6.out 0 (.bool ng)
  have y1:=rw_setc y0 1 (.slice A6 (lbs (m / 2 ^ n)).length c6)
  have y2:=rw_setc y1 2 (.int .i64 (exp + (n:Int)))
  have z0:=kb_cell y2 (i:=0) rfl
  have z1:=kb_cell y2 (i:=1) rfl
  have z2:=kb_cell y2 (i:=2) rfl
  refine bodyPost_ret (v:=.tuple #[.agg #[.bool ng,.slice A6 (lbs (m / 2 ^ n)).length c6,.int .i64 (exp + (n:Int))],.int .i64 0]) (by simp [results,Tryz.results89,go_sem,z0,z1,z2]) rfl ?_
  exact ⟨n,_,T.out,rfl,own_set (own_set (own_set O6.out K6.out (by decide) 0 _) y0 (by decide) 1 _) y1 (by decide) 2 _,bl_set (bl_set (bl_set B6.out _ (Nat.le_refl _)) _ (Nat.le_refl _)) _ (Nat.le_refl _)⟩
set_option maxHeartbeats 1000000 in
theorem made_z {W:World} {x:Nat} {exp:Int} (hx:IntAt W x 0) :
    Calls Tryz.prog 89 #[pt x,.int .i64 exp] W fun e w'=>e=.returned (.tuple #[.agg #[.bool false,.slice none 0 0,.int .i64 0],.int .i64 0])∧Below W.heap.size W w':=by
  have X0:=Lib.hid (hx.alloc nilD)
  have B0:=Lib.hid (bl_alloc (Below.refl W.heap.size W) nilD)
  have K0:=Lib.hid (kb_new (w:=W) (o:=nilD) (Below.refl _ _))
  have SG:Hid (∀ w,IntAt w x 0→Calls Tryz.prog 86 #[pt x] w fun e w'=>e=.returned (.int .i64 0)∧w=w'):=Lib.hid (fun w h=>isign_c h)
  have d0:=kb_cell K0.out (i:=0) rfl
  have d1:=kb_cell K0.out (i:=1) rfl
  have d2:=kb_cell K0.out (i:=2) rfl
  have f0:=kb_frozen K0.out 0
  have f1:=kb_frozen K0.out 1
  have f2:=kb_frozen K0.out 2
  clear hx
  go_enter Tryz.func89,Tryz.ntmps89
  go_wp2_with (go_at_call 86;(with_reducible refine (SG.out _ X0.out).mono ?_);rintro e w4 ⟨rfl,rfl⟩)
  refine bodyPost_ret (v:=.tuple #[.agg #[.bool false,.slice none 0 0,.int .i64 0],.int .i64 0]) (by simp [results,Tryz.results89,go_sem,d0,d1,d2]) rfl ?_
  exact ⟨rfl,B0.out⟩
end Go.Proofs.YtmndoelimincdaaGreatDoor
namespace Go.Proofs.YtmndoelimincdaaGreatDoor
open Go Go.RowKit Nv
open Go.Proofs.YtmndoelimincdaaGreatDoorW.PrintWords (Kd own_move own_ne own_lt own_base own_typed)
open XBn
set_option maxRecDepth 100000
set_option linter.unusedSimpArgs false
theorem lbs_ind (P:Nat→Prop) (h0:P 0) (h1:∀ m,m ≠ 0→P (m / 18446744073709551616)→P m) (m:Nat):P m:=by
  induction m using Nat.strongRecOn with
  | ind m ih =>
    by_cases h:m=0
    · rw [h];exact h0
    · exact h1 m h (ih _ (Nat.div_lt_self (by omega) (by decide)))
theorem lbs_lw (m:Nat):Lw (lbs m):=by
  refine lbs_ind (fun m=>Lw (lbs m)) ?_ ?_ m
  · intro p hp;rw [lbs_zero] at hp;cases hp
  · intro m h ih p hp
    rw [lbs_pos h] at hp
    rcases List.mem_cons.1 hp with rfl|hp
    · constructor <;> omega
    · exact ih p hp
theorem lvN_lbs (m:Nat):lvN (lbs m)=m:=by
  refine lbs_ind (fun m=>lvN (lbs m)=m) ?_ ?_ m
  · rw [lbs_zero];rfl
  · intro m h ih
    rw [lbs_pos h]
    show ((m % 18446744073709551616:Nat):Int).toNat + 18446744073709551616 * lvN (lbs (m / 18446744073709551616))=m
    rw [ih,Int.toNat_natCast]
    exact Nat.mod_add_div m _
theorem lbs_nil {m:Nat}:(lbs m).length=0 ↔ m=0:=by
  constructor
  · intro h
    by_cases h0:m=0
    · exact h0
    · rw [lbs_pos h0] at h;simp at h
  · rintro rfl;rw [lbs_zero];rfl
theorem bl_shift {m:Nat} (h:m / 18446744073709551616 ≠ 0):bl m=64 + bl (m / 18446744073709551616):=bl_top (i:=2) h rfl
theorem lbs_top (m:Nat):m ≠ 0→∃ p:Nat,(lbs m)[(lbs m).length - 1]?=some (p:Int)∧p ≠ 0∧p < 18446744073709551616∧bl m=64 * ((lbs m).length - 1) + bl p:=by
  refine lbs_ind (fun m=>m ≠ 0→∃ p:Nat,(lbs m)[(lbs m).length - 1]?=some (p:Int)∧p ≠ 0∧p < 18446744073709551616∧bl m=64 * ((lbs m).length - 1) + bl p) ?_ ?_ m
  · intro h;exact absurd rfl h
  · intro m h ih _
    rw [lbs_pos h]
    by_cases hd:m / 18446744073709551616=0
    · have hlt:m < 18446744073709551616:=by omega
      rw [hd,lbs_zero,Nat.mod_eq_of_lt hlt]
      exact ⟨m,by simp,h,hlt,by simp⟩
    · obtain ⟨p,h1,h2,h3,h4⟩:=ih hd
      have hl:(lbs (m / 18446744073709551616)).length ≠ 0:=fun e=>hd (lbs_nil.1 e)
      refine ⟨p,?_,h2,h3,?_⟩
      · rw [List.length_cons,Nat.add_sub_cancel,List.getElem?_cons,if_neg hl];exact h1
      · rw [bl_shift hd,h4,List.length_cons];omega
theorem u64_low1 (y:Nat) (h:y < 18446744073709551616):bits BinOp.and IntKind.u64 (y:Int) 1=((y % 2:Nat):Int):=by
  have:=u64_and_nat y 1 h (by decide)
  rw [show ((1:Nat):Int)=1 from rfl] at this
  rw [this]
  congr 1
  exact Nat.and_two_pow_sub_one_eq_mod y 1
theorem two_y (w:World) (o o':Obj):((w.alloc o).alloc o').heap[w.heap.size + 1]?=some o':=by
  have:=kb_new (w:=w.alloc o) (o:=o') (Below.refl _ _)
  simpa using this
structure DR (k:Nat) (g:Bool) (m:Nat) (x:Int):Prop where
  z:m=0→g=false∧x=0
  o:m ≠ 0→m % 2=1
  l:m < 2 ^ (64 * k)
  k:k≤256
  lo:-30000≤x
  hi:x≤30000
theorem DR.len {k:Nat} {g:Bool} {m:Nat} {x:Int} (h:DR k g m x):(lbs m).length≤256:=Nat.le_trans (lbs_len h.l) h.k
theorem DR.sm {k:Nat} {g:Bool} {m:Nat} {x:Int} (h:DR k g m x):Sm (m:Int):=sm_pw h.l (by have:=h.k;omega)
theorem right_f1 {k:Nat} {g:Bool} {m:Nat} {x:Int} (h:DR k g m x):dyad_Right.f g (lbs m) x=some true:=by
  unfold dyad_Right.f
  by_cases h0:m=0
  · obtain ⟨rfl,rfl⟩:=h.z h0
    rw [if_pos (by have:=lbs_nil.2 h0;omega),if_neg (by decide)]
    rfl
  · have hl:=h.len
    have hp:(lbs m).length ≠ 0:=fun e=>h0 (lbs_nil.1 e)
    have hw:wrap64 (((lbs m).length:Int) - 1)=(((lbs m).length - 1:Nat):Int):=by unfold wrap64;omega
    obtain ⟨p,h1,h2,h3,_⟩:=lbs_top m h0
    obtain ⟨hlt,hv⟩:=List.getElem?_eq_some_iff.1 h1
    have hlt0:0 < (lbs m).length:=by omega
    have f0:(lbs m)[0]=((m % 18446744073709551616:Nat):Int):=by simp only [lbs_pos h0,List.getElem_cons_zero]
    have ho:=h.o h0
    have e0:=u64_low1 (m % 18446744073709551616) (Nat.mod_lt _ (by decide))
    have e1:m % 18446744073709551616 % 2=1:=by omega
    rw [e1] at e0
    have r0:Go.Proofs.YtmndoelimincdaaGreatDoorW.PrintWords.rd (lbs m) 0=((m % 18446744073709551616:Nat):Int):=by
      have:=rd_nat hlt0
      rw [f0] at this
      exact this
    rw [if_neg (by omega),if_pos (by omega),hw,if_pos (by omega),if_pos (by omega),rd_nat hlt,hv,if_neg (by omega),if_pos (by omega),r0,e0,if_pos (by rfl),if_pos (by have:=h.lo;omega),decide_eq_true (by have:=h.hi;omega)]
def Dy (w:World) (d:Value) (g:Bool) (m:Nat) (x:Int):Prop:=∃ A c,d=.agg #[.bool g,.slice A (lbs m).length c,.int .i64 x]∧(lbs m).length≤c∧Kd.C (Kd.int .u64) w A (lbs m).length (lbs m)
theorem Dy.below {w w1:World} {d:Value} {g:Bool} {m:Nat} {x:Int} (h:Dy w d g m x) (hb:Below w.heap.size w w1):Dy w1 d g m x:=by
  obtain ⟨A,c,rfl,hl,hC⟩:=h
  exact ⟨A,c,rfl,hl,Kd.C_below hC hb⟩
theorem dy_own {w:World} {B m:Nat} {g:Bool} {x:Int} {v:Value} (h:w.ownsRow B 38 1 v (lbs m).length (U6 (lbs m))):Dy w (.agg #[.bool g,v,.int .i64 x]) g m x:=by
  obtain ⟨A,c,rfl,hc,hC⟩:=own_int6 h
  exact ⟨A,c,rfl,hc,hC⟩
theorem yright_c {k:Nat} {g:Bool} {m:Nat} {x:Int} {d:Value} {w:World} (h:Dy w d g m x) (r:DR k g m x):Calls Tryz.prog 76 #[d] w fun e w'=>e=.returned (.bool true)∧Below w.heap.size w w':=by
  obtain ⟨A,c,rfl,hl,hC⟩:=h
  exact (dyad_Right.calls g A c (lbs m) x true w hC hl (right_f1 r)).mono fun e w' ⟨h1,h2⟩=>⟨h1,by first|exact h2.below|exact h2⟩
theorem ywhole_c {k:Nat} {g:Bool} {m:Nat} {x:Int} {d:Value} {w:World} (h:Dy w d g m x) (r:DR k g m x):Calls Tryz.prog 77 #[d] w fun e w'=>∃ b,e=.returned (pt b)∧w.heap.size≤b∧IntAt w' b (sg g m)∧Below w.heap.size w w':=by
  obtain ⟨A,c,rfl,hl,hC⟩:=h
  have:=dwhole_c (W:=w) g A c (lbs m) x hC (lbs_lw m) (by have:=r.len;omega)
  rw [lvN_lbs] at this
  exact this
theorem yboth_c {k l:Nat} {g g':Bool} {m m':Nat} {x x':Int} {d d':Value} {W:World} (h:Dy W d g m x) (r:DR k g m x) (h':Dy W d' g' m' x') (r':DR l g' m' x'):Calls Tryz.prog 90 #[d,d'] W fun e w'=>e=.returned (.bool true)∧Below W.heap.size W w':=by
  have RA:Hid (∀ w,Below W.heap.size W w→Calls Tryz.prog 76 #[d] w fun e w'=>e=.returned (.bool true)∧Below w.heap.size w w'):=Lib.hid (fun w hb=>yright_c (h.below hb) r)
  have RB:Hid (∀ w,Below W.heap.size W w→Calls Tryz.prog 76 #[d'] w fun e w'=>e=.returned (.bool true)∧Below w.heap.size w w'):=Lib.hid (fun w hb=>yright_c (h'.below hb) r')
  obtain ⟨A,c,rfl,_⟩:=h
  obtain ⟨A',c',rfl,_⟩:=h'
  clear r r'
  have B0:Hid (Below W.heap.size W ((W.alloc (.cells #[.bool g,.slice A (lbs m).length c,.int .i64 x] 48)).alloc (.cells #[.bool g',.slice A' (lbs m').length c',.int .i64 x'] 48))):=Lib.hid (by repeat' (first|(with_reducible exact Below.refl _ _)|(with_reducible refine bl_alloc ?_ _)|(with_reducible refine bl_drewN ?_ _)|(with_reducible refine bl_drew ?_)|(with_reducible refine bl_set ?_ _ (by simp))))
  have K0:=Lib.hid (kb_alloc (o':=.cells #[.bool g',.slice A' (lbs m').length c',.int .i64 x'] 48) (kb_new (w:=W) (o:=.cells #[.bool g,.slice A (lbs m).length c,.int .i64 x] 48) (Below.refl _ _)))
  have K1:=Lib.hid (two_y W (.cells #[.bool g,.slice A (lbs m).length c,.int .i64 x] 48) (.cells #[.bool g',.slice A' (lbs m').length c',.int .i64 x'] 48))
  have a0:=kb_cell K0.out (i:=0) rfl
  have a1:=kb_cell K0.out (i:=1) rfl
  have a2:=kb_cell K0.out (i:=2) rfl
  have b0:=kb_cell K1.out (i:=0) rfl
  have b1:=kb_cell K1.out (i:=1) rfl
  have b2:=kb_cell K1.out (i:=2) rfl
  go_enter Tryz.func90,Tryz.ntmps90
  go_wp2_with (go_at_call 76;(with_reducible (first|refine (RA.out _ B0.out).mono ?_|refine (RB.out _ B0.out).mono ?_));rintro e w1 ⟨rfl,hb⟩;have B0:=Lib.hid (bl_then B0.out hb);have K1:=Lib.hid (kb_keep hb K1.out);clear b0 b1 b2;have b0:=kb_cell K1.out (i:=0) rfl;have b1:=kb_cell K1.out (i:=1) rfl;have b2:=kb_cell K1.out (i:=2) rfl;clear hb)
  go_ret
  exact ⟨rfl,B0.out⟩
end Go.Proofs.YtmndoelimincdaaGreatDoor
namespace Go.Proofs.YtmndoelimincdaaGreatDoor
open Go Go.RowKit GFl Ieee
set_option maxRecDepth 100000
theorem one_mg1:mg B52 1=1:=by decide +kernel
theorem fma64 {x y z:Nat} (hx:W64 x) (hy:W64 y) (hz:W64 z) (fx:rg x < 9218868437227405312) (fy:rg y < 9218868437227405312) (fz:rg z < 9218868437227405312) :
    ∃ t r,double.fma x y z=some t∧W64 t∧rg t=min r 9218868437227405312∧IsRn B52 (val x * val y + val z * ((p2 1074:Nat):Int)).natAbs (p2 1074) r∧(val x * val y + val z * ((p2 1074:Nat):Int) ≠ 0→neg t=decide (val x * val y + val z * ((p2 1074:Nat):Int) < 0)):=by
  obtain ⟨m,i,ex,li,hm,_,_⟩:=read_num (f:=double) hx (by rw [d_inf];exact fx)
  obtain ⟨n,j,ey,lj,hn,_,_⟩:=read_num (f:=double) hy (by rw [d_inf];exact fy)
  obtain ⟨l,k,ez,lk,hl,_,_⟩:=read_num (f:=double) hz (by rw [d_inf];exact fz)
  rw [d_l] at li lj lk hm hn hl
  rw [← p2_def] at hm hn hl
  unfold Format.fma
  rw [ex,ey,ez]
  simp only [Datum.product,Option.bind_some,Datum.sum,Option.map_some,Format.write]
  have hb1:min (i + j) k≤i + j:=by omega
  have hb2:min (i + j) k≤k:=by omega
  have hb3:-2148≤min (i + j) k:=by omega
  generalize min (i + j) k=base at *
  have c1:signed (sgn double x ^^ sgn double y) (m * n) (i + j - base).toNat * ((p2 (base + 2148).toNat:Nat):Int)=val x * val y:=by
    have e:m * n * p2 (i + j - base).toNat * p2 (base + 2148).toNat=mg double.binade (rung double x) * mg double.binade (rung double y):=by
      rw [← hm,← hn]
      have:m * p2 (i - -1074).toNat * (n * p2 (j - -1074).toNat)=m * n * (p2 (i - -1074).toNat * p2 (j - -1074).toNat):=by
        rw [Nat.mul_assoc,Nat.mul_assoc m n];congr 1;rw [Nat.mul_left_comm]
      rw [this,Nat.mul_assoc (m * n),← p2_add,← p2_add]
      congr 2;omega
    rw [signed_eq,← p2_def]
    show _=sv double x * sv double y
    unfold sv
    cases sgn double x <;> cases sgn double y <;> simp only [Bool.xor_false,Bool.xor_true,Bool.not_true,Bool.not_false,Bool.false_eq_true,if_true,if_false,Int.neg_mul,Int.mul_neg,Int.neg_neg,← Int.natCast_mul,e]
  have c2:signed (sgn double z) l (k - base).toNat * ((p2 (base + 2148).toNat:Nat):Int)=val z * ((p2 1074:Nat):Int):=by
    have e:l * p2 (k - base).toNat * p2 (base + 2148).toNat=mg double.binade (rung double z) * p2 1074:=by
      rw [← hl,Nat.mul_assoc,Nat.mul_assoc,← p2_add,← p2_add]
      congr 2;omega
    rw [signed_eq,← p2_def]
    show _=sv double z * _
    unfold sv
    cases sgn double z <;> simp only [Bool.false_eq_true,if_true,if_false,Int.neg_mul,← Int.natCast_mul,e]
  generalize signed (sgn double x ^^ sgn double y) (m * n) (i + j - base).toNat=S at *
  generalize signed (sgn double z) l (k - base).toNat=T at *
  rw [← c1,← c2,← Int.add_mul]
  obtain ⟨r,hr,hw⟩:=nearest_rn good_double (if S + T=0 then (sgn double x ^^ sgn double y) && sgn double z else decide (S + T < 0)) (S + T).natAbs base
  have hlt:min r 9218868437227405312 < 9223372036854775808:=by omega
  have hU:0 < p2 (base + 2148).toNat:=p2_pos _
  refine ⟨wd (if S + T=0 then (sgn double x ^^ sgn double y) && sgn double z else decide (S + T < 0)) (min r 9218868437227405312),r,?_,wd_w hlt,wd_rg hlt,?_,?_⟩
  · rw [hw,d_inf];rfl
  · rw [d_l,← p2_def,← p2_def] at hr
    refine hr.cross (p2_pos _) (p2_pos _) ?_
    rw [Int.natAbs_mul,Int.natAbs_natCast,Nat.mul_assoc,Nat.mul_assoc,← p2_add,← p2_add]
    congr 2;omega
  · intro hne
    have h0:S + T ≠ 0:=fun h=>hne (by rw [h,Int.zero_mul])
    rw [wd_neg hlt,if_neg h0]
    rw [decide_eq_decide]
    have hU':(0:Int) < ((p2 (base + 2148).toNat:Nat):Int):=by omega
    generalize ((p2 (base + 2148).toNat:Nat):Int)=U at *
    constructor
    · intro h;exact Int.mul_neg_of_neg_of_pos h hU'
    · intro h
      by_cases h1:S + T < 0
      · exact h1
      · have:=Int.mul_nonneg (Int.not_lt.1 h1) (Int.le_of_lt hU');omega
theorem fma_sg {x y z:Nat} (hx:W64 x) (hy:W64 y) (hz:W64 z) (fx:rg x < 9218868437227405312) (fy:rg y < 9218868437227405312) (fz:rg z < 9218868437227405312)
    (hd:((p2 1074:Nat):Int) ∣ val x * val y):∃ t,double.fma x y z=some t∧W64 t∧sgI t=(val x * val y + val z * ((p2 1074:Nat):Int)).sign:=by
  obtain ⟨t,r,h1,h2,h3,h4,h5⟩:=fma64 hx hy hz fx fy fz
  refine ⟨t,h1,h2,?_⟩
  have hdv:((p2 1074:Nat):Int) ∣ val x * val y + val z * ((p2 1074:Nat):Int):=Int.dvd_add hd (Int.dvd_mul_left _ _)
  generalize val x * val y + val z * ((p2 1074:Nat):Int)=v at *
  have hD:0 < p2 1074:=p2_pos _
  have hn:isn t=false:=by rw [isn_eq];simp;omega
  unfold sgI
  rw [hn,if_neg (by simp),plc_eq]
  by_cases h0:v=0
  · subst h0
    have hr0:r=0:=h4.unique B52_pos hD (IsRn.zero B52_pos hD)
    rw [hr0] at h3
    rw [h3]
    cases neg t <;> rfl
  · have hr1:1≤r:=by
      have e1:IsRn B52 (mg B52 1 * p2 1074) (p2 1074) 1:=IsRn.exact B52_pos hD
      refine e1.mono B52_pos hD hD h4 (Nat.mul_le_mul_right _ ?_)
      rw [one_mg1,Nat.one_mul]
      have h6:=Int.natAbs_dvd_natAbs.2 hdv
      rw [Int.natAbs_natCast] at h6
      exact Nat.le_of_dvd (by omega) h6
    have h6:=h5 h0
    have h7:1≤rg t:=by omega
    rw [h6]
    by_cases hneg:v < 0
    · rw [decide_eq_true hneg]
      simp only [if_true]
      rw [if_neg (by omega),if_pos (by omega),Int.sign_eq_neg_one_of_neg hneg]
    · rw [decide_eq_false hneg]
      simp only [Bool.false_eq_true,if_false]
      rw [if_pos (by omega),Int.sign_eq_one_of_pos (by omega)]
theorem p2_53:p2 53=9007199254740992:=by decide +kernel
theorem ulp_dvd (r:Nat):∃ k,p2 k ∣ mg B52 r∧mg B52 r < p2 (k + 53):=by
  by_cases h:r < B52
  · refine ⟨0,by rw [p2_zero];exact Nat.one_dvd _,?_⟩
    rw [mg_small h,Nat.zero_add,p2_53]
    unfold B52 at h
    omega
  · obtain ⟨s,t,ht,rfl⟩:=rung_split B52_pos (by omega:B52≤r)
    refine ⟨s,?_,?_⟩
    · rw [mg_eq B52 s t ht,p2_def];exact Nat.dvd_mul_left _ _
    · rw [mg_eq B52 s t ht,p2_add,Nat.mul_comm (p2 s),← p2_def]
      refine Nat.mul_lt_mul_of_pos_right ?_ (p2_pos s)
      rw [p2_53]
      unfold B52 at ht ⊢
      omega
theorem dvd_two {a b:Nat} (h:p2 1180≤mg B52 a * mg B52 b):p2 1074 ∣ mg B52 a * mg B52 b:=by
  obtain ⟨k,h1,h2⟩:=ulp_dvd a
  obtain ⟨l,h3,h4⟩:=ulp_dvd b
  have h5:mg B52 a * mg B52 b < p2 (k + 53 + (l + 53)):=by rw [p2_add];exact Nat.mul_lt_mul_of_lt_of_lt h2 h4
  have h6:1180 < k + 53 + (l + 53):=p2_lt (Nat.lt_of_le_of_lt h h5)
  have h7:p2 (k + l) ∣ mg B52 a * mg B52 b:=by rw [p2_add];exact Nat.mul_dvd_mul h1 h3
  have h8:p2 1074 ∣ p2 (k + l):=by rw [p2_split (show 1074≤k + l by omega)];exact Nat.dvd_mul_left _ _
  exact Nat.dvd_trans h8 h7
theorem val_natAbs (x:Nat):(val x).natAbs=mg B52 (rg x):=by rw [val_eq'];cases neg x <;> simp
theorem dvd_val {x y:Nat} (h:p2 1180≤mg B52 (rg x) * mg B52 (rg y)):((p2 1074:Nat):Int) ∣ val x * val y:=by
  rw [← Int.natAbs_dvd_natAbs,Int.natAbs_natCast,Int.natAbs_mul,val_natAbs,val_natAbs]
  exact dvd_two h
theorem mg_big {r:Nat} (h:553942754166571008≤r):p2 174≤mg B52 r:=by
  refine Nat.le_trans ?_ (mg_mono B52_pos h)
  have:mg B52 553942754166571008=B52 * p2 122:=mg_B 123 0 (by decide) (by decide)
  rw [this];decide +kernel
theorem mg_dbl {r:Nat} (h:1≤r):mg B52 (r + 1)≤2 * mg B52 r:=by
  rw [mg_succ B52 r B52_pos]
  have:ulp B52 r≤mg B52 r:=by
    by_cases hs:r < B52
    · rw [ulp_small hs,mg_small hs];omega
    · obtain ⟨s,t,ht,rfl⟩:=rung_split B52_pos (by omega:B52≤r)
      rw [ulp_eq B52 s t ht,mg_eq B52 s t ht]
      exact Nat.le_mul_of_pos_left _ (by have:=B52_pos;omega)
  omega
end Go.Proofs.YtmndoelimincdaaGreatDoor
