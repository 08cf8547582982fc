import Derived.Test.YtalhpbilkhdfhaaDoorRows
import Derived.WalkKit
import Derived.WalkLawsBesides
import Derived.Laws.Externs
import Derived.Lib.Hide
import Derived.Deep.QuietTactic
import Derived.BigQuiet
import Derived.Deep.Light
import Derived.Test.YtalhpbilkhdfhaaDoorTRTf
import Derived.Deep.AppendLies
import Derived.Deep.LoopGhost
import Derived.StillTailTactics
import Derived.Deep.RegionHeld3
import Derived.OrdersHeld
import Derived.RegionTactic
import Derived.Deep.RegionWith
import Derived.BigRegion
namespace Go.Proofs.YtalhpbilkhdfhaaDoor
open Go Go.RowKit
set_option maxRecDepth 100000
structure Dr (w w':World):Prop where mk :: (out:∃ n,w'=w.drewN n)
theorem Dr.refl (w:World):Dr w w:=⟨⟨0,rfl⟩⟩
theorem Dr.n (w:World) (n:Nat):Dr w (w.drewN n):=⟨⟨n,rfl⟩⟩
theorem Dr.step {w w':World} (h:Dr w w') (n:Nat):Dr w (w'.drewN n):=by
  obtain ⟨m,rfl⟩:=h
  exact ⟨⟨m + n,World.drewN_drewN ..⟩⟩
theorem Dr.trans {w w1 w2:World} (h:Dr w w1) (h':Dr w1 w2):Dr w w2:=by
  obtain ⟨m,rfl⟩:=h'
  exact h.step m
theorem Dr.below {w w':World} (h:Dr w w'):Below w.heap.size w w':=by
  obtain ⟨n,rfl⟩:=h
  induction n with
  | zero=>exact Below.refl _ _
  | succ n ih=>rw [← World.drew_drewN];exact ih.drew
def FR (k:FloatKind) (o:Option Nat) (r:Nat):Prop:=match o with
  | some z=>r=z
  | none=>k.format.infRung < r % k.format.signWeight∧r < 2 ^ k.format.width
def arith:BinOp→Bool
  | .add|.sub|.mul|.quo=>true
  | _=>false
theorem run_arith {P:Program} (op:BinOp) (t:TypeId) (k:FloatKind) (x y:Nat) (w:World) (h:arith op=true) :
    ∃ r n,FR k (floatBits op k x y) r∧(binOp op t (.float k x) (.float k y)).run P w=.ok (.float k r) (w.drewN n):=by
  cases hb:floatBits op k x y with
  | some z =>
    exact ⟨z,0,rfl,run_float_arith w op t k x y z hb⟩
  | none =>
    have e:(binOp op t (.float k x) (.float k y)).run P w=.ok (.float k ((Question.nanBits k x y).cut (w.tape w.drawn (.nanBits k x y)))) (w.drewN 1):=by
      unfold floatBits at hb
      cases op <;> simp only [arith,Bool.false_eq_true] at h <;> simp only at hb <;> simp [binOp,Op.floatArith,hb,choose,Sem.run,Question.forced,World.drewN]
    refine ⟨_,1,?_,e⟩
    generalize w.tape w.drawn (.nanBits k x y)=t
    cases k
    · have e1:FloatKind.f32.format.infRung=2139095040:=by decide
      have e2:FloatKind.f32.format.signWeight=2147483648:=by decide
      have e3:2 ^ FloatKind.f32.format.width=4294967296:=by decide
      simp only [FR,Question.cut,e1,e2,e3]
      have h2:t % 2=0 ∨ t % 2=1:=by omega
      rcases h2 with h2|h2 <;> rw [h2] <;> omega
    · have e1:FloatKind.f64.format.infRung=9218868437227405312:=by decide
      have e2:FloatKind.f64.format.signWeight=9223372036854775808:=by decide
      have e3:2 ^ FloatKind.f64.format.width=18446744073709551616:=by decide
      simp only [FR,Question.cut,e1,e2,e3]
      have h2:t % 2=0 ∨ t % 2=1:=by omega
      rcases h2 with h2|h2 <;> rw [h2] <;> omega
theorem run_f64bits (b:Nat) (w:World):(callFunc 32 #[.float .f64 b]).run Tryd.prog w=.ok (.value (.int .u64 b)) w:=by
  rw [run_callFunc_extern (P:=Tryd.prog) (f:=32) (fn:=Tryd.f32) (e:=Extern.MathFloatBits.float64bits) (by kernel_rfl) (by kernel_rfl) (by kernel_rfl) (by kernel_rfl) (by kernel_rfl)]
  rfl
theorem run_f64frombits (n:Int) (w:World):(callFunc 34 #[.int .u64 n]).run Tryd.prog w=.ok (.value (.float .f64 n.toNat)) w:=by
  rw [run_callFunc_extern (P:=Tryd.prog) (f:=34) (fn:=Tryd.f34) (e:=Extern.MathFloatBits.float64frombits) (by kernel_rfl) (by kernel_rfl) (by kernel_rfl) (by kernel_rfl) (by kernel_rfl)]
  rfl
theorem run_neg_f64 {P:Program} (x:Nat) (w:World):(Op.unary .neg (.float .f64 x)).run P w=.ok (.float .f64 (GFl.fneg x)) w:=rfl
section
open GFl
theorem t_lt {x y:Nat} (hx:W64 x) (hy:W64 y):(FloatKind.f64.format.order x y == some .lt)=(!isn x && !isn y && decide (plc x < plc y)):=o_lt hx hy
theorem t_gt {x y:Nat} (hx:W64 x) (hy:W64 y):(FloatKind.f64.format.order x y == some .gt)=(!isn x && !isn y && decide (plc y < plc x)):=o_gt hx hy
theorem t_eq {x y:Nat} (hx:W64 x) (hy:W64 y):(FloatKind.f64.format.order x y == some .eq)=(!isn x && !isn y && decide (plc x=plc y)):=o_eq hx hy
theorem t_le {x y:Nat} (hx:W64 x) (hy:W64 y):(FloatKind.f64.format.order x y == some .lt || FloatKind.f64.format.order x y == some .eq)=(!isn x && !isn y && decide (plc x≤plc y)):=o_le hx hy
theorem t_ge {x y:Nat} (hx:W64 x) (hy:W64 y):(FloatKind.f64.format.order x y == some .gt || FloatKind.f64.format.order x y == some .eq)=(!isn x && !isn y && decide (plc y≤plc x)):=o_ge hx hy
theorem t_ne_self {x:Nat} (hx:W64 x):(FloatKind.f64.format.order x x != some .eq)=isn x:=o_ne_self hx
end
theorem ret_int {k:IntKind} {a b:Int} (h:a=b):Ending.returned (.int k a)=.returned (.int k b):=by rw [h]
theorem ret_bool {a b:Bool} (h:a=b):Ending.returned (.bool a)=.returned (.bool b):=by rw [h]
theorem ret_float {k:FloatKind} {a b:Nat} (h:a=b):Ending.returned (.float k a)=.returned (.float k b):=by rw [h]
theorem ret_int_bool {k:IntKind} {a b:Int} {c d:Bool} (h:a=b) (h':c=d):Ending.returned (.tuple #[.int k a,.bool c])=.returned (.tuple #[.int k b,.bool d]):=by rw [h,h']
theorem ret_float_bool {k:FloatKind} {a b:Nat} {c d:Bool} (h:a=b) (h':c=d):Ending.returned (.tuple #[.float k a,.bool c])=.returned (.tuple #[.float k b,.bool d]):=by rw [h,h']
theorem ret_float_int {k:FloatKind} {q:IntKind} {a b:Nat} {c d:Int} (h:a=b) (h':c=d):Ending.returned (.tuple #[.float k a,.int q c])=.returned (.tuple #[.float k b,.int q d]):=by rw [h,h']
section
variable {P:Program} {ops:Array Oper} {Q:Exit→Act→World→Prop} {a:Act} {w:World} {rest:List Oper}
theorem wp_arith {dst:Option Tmp} {op:BinOp} {t t' ty:TypeId} {x y:Operand} {pos:String} {after:Array Edge} (k:FloatKind) (X Y:Nat)
    (hx:a.eval x=.float k X) (hy:a.eval y=.float k Y) (ha:arith op=true)
    (h:∀ r n,FR k (floatBits op k X Y) r→wpList P ops Q rest (a.put dst (.float k r)) (w.drewN n)) :
    wpList P ops Q (⟨dst,.binOp op t x y t',ty,pos,after,none⟩ :: rest) a w:=by
  refine wpList_plain rfl fun K hK=>?_
  obtain ⟨r,n,hr,e⟩:=run_arith (P:=P) op t k X Y w ha
  have:=hK _ _ (h r n hr)
  unfold Oper.wp
  have e2:(execOp a.eval ⟨dst,.binOp op t x y t',ty,pos,after,none⟩).run P w=.ok (.value (.float k r)) (w.drewN n):=by
    have eg:eqGuard op t x y (.float k X) (.float k Y)=pure ():=by cases op <;> first|rfl|simp [arith] at ha
    simp only [execOp,hx,hy,eg]
    simp [e,Result.andThen]
  rw [e2]
  exact this
end
end Go.Proofs.YtalhpbilkhdfhaaDoor
namespace Go.Proofs.YtalhpbilkhdfhaaDoor
open Go Go.RowKit
theorem bl_alloc {w W:World} (h:Below w.heap.size w W) (o:Obj):Below w.heap.size w (W.alloc o):=h.alloc h.size o
theorem bl_drewN {B:Nat} {w W:World} (h:Below B w W) (n:Nat):Below B w (W.drewN n):=⟨h.os,h.tape,h.output,h.size,h.block⟩
theorem bl_drew {B:Nat} {w W:World} (h:Below B w W):Below B w W.drew:=⟨h.os,h.tape,h.output,h.size,h.block⟩
theorem bl_set {B:Nat} {w W:World} (h:Below B w W) {p:Addr} (v:Value) (hp:B≤p.block):Below B w (W.setCell p v):=h.setCell hp v
theorem bl_then {w W W':World} (h:Below w.heap.size w W) (h':Below W.heap.size W W'):Below w.heap.size w W':=h.trans (h'.mono h.size)
theorem kb_new {w w1:World} {o:Obj} (h:Below (w.alloc o).heap.size (w.alloc o) w1):w1.heap[w.heap.size]?=some o:=by
  have h1:w.heap.size < (w.alloc o).heap.size:=by
    show w.heap.size < (w.heap.push o).size
    rw [Array.size_push];omega
  rw [h.block w.heap.size h1]
  show (w.heap.push o)[w.heap.size]?=some o
  exact Array.getElem?_push_size
theorem kb_keep {w w1:World} {b:Nat} {o:Obj} (h:Below w.heap.size w w1) (hb:w.heap[b]?=some o):w1.heap[b]?=some o:=by
  rw [h.block b (Array.getElem?_eq_some_iff.1 hb).1]
  exact hb
theorem kb_alloc {w:World} {b:Nat} {o o':Obj} (hb:w.heap[b]?=some o):(w.alloc o').heap[b]?=some o:=by
  have:=(Array.getElem?_eq_some_iff.1 hb).1
  rw [Below.heap_alloc _ _ _ this];exact hb
theorem kb_lt {w:World} {b:Nat} {o:Obj} (hb:w.heap[b]?=some o):b < w.heap.size:=(Array.getElem?_eq_some_iff.1 hb).1
theorem kb_cell {w:World} {b i:Nat} {c:Array Value} {t:TypeId} {fz:Nat × Nat} {v:Value} (hb:w.heap[b]?=some (.cells c t fz)) (hv:c[i]?=some v):w.cell? ⟨b,i,none⟩=some v:=by
  simp [World.cell?,hb,hv]
theorem kb_frozen {w:World} {b:Nat} {c:Array Value} {t:TypeId} (hb:w.heap[b]?=some (.cells c t (0,0))) (i:Nat):w.frozen? ⟨b,i,none⟩=false:=by
  simp [World.frozen?,hb]
end Go.Proofs.YtalhpbilkhdfhaaDoor
namespace Go.Proofs.YtalhpbilkhdfhaaDoor
open Go Go.RowKit Nv
open Go.Proofs.YtalhpbilkhdfhaaDoorW.PrintWords (Kd Drawn0)
open XBn
set_option maxRecDepth 100000
def Ty (w:World) (A:Option Addr) (l:List Int):Prop:=0 < l.length→∃ ad cells,A=some ad∧w.heap[ad.block]?=some (.cells cells 96 (0,0))
theorem Ty.below {w w1:World} {A:Option Addr} {l:List Int} (h:Ty w A l) (hb:Below w.heap.size w w1):Ty w1 A l:=fun h0=>by
  obtain ⟨ad,cells,e,hc⟩:=h h0
  exact ⟨ad,cells,e,kb_keep hb hc⟩
def Wd (w:World) (v:Value) (n:Int):Prop:=∃ A c l,v=.slice A l.length c∧l.length≤c∧(Kd.C (Kd.int .u32) w A l.length l∧Ty w A l)∧Nm l∧nv l=n
def Sm (n:Int):Prop:=n < bs 1000000
theorem len_of {l:List Int} (h:Nm l) (hs:Sm (nv l)):l.length≤1000000:=by
  rcases Nat.lt_or_ge 1000000 l.length with h1|h1
  · have h2:=h.lower (by intro e;rw [e] at h1;simp at h1)
    have h3:=bs_le (show 1000000≤l.length - 1 by omega)
    unfold Sm at hs;omega
  · exact h1
theorem Wd.below {w w1:World} {v:Value} {n:Int} (h:Wd w v n) (hb:Below w.heap.size w w1):Wd w1 v n:=by
  obtain ⟨A,c,l,rfl,hl,hC,hN,hn⟩:=h
  exact ⟨A,c,l,rfl,hl,⟨Kd.C_below hC.1 hb,hC.2.below hb⟩,hN,hn⟩
theorem Wd.nil (w:World):Wd w (.slice none 0 0) 0:=⟨none,0,[],rfl,Nat.le_refl _,⟨⟨rfl,by simp,fun h=>absurd h (Nat.lt_irrefl 0)⟩,fun h=>absurd h (Nat.lt_irrefl 0)⟩,Nm.nil,nv_nil⟩
theorem Wd.nonneg {w:World} {v:Value} {n:Int} (h:Wd w v n):0≤n:=by
  obtain ⟨A,c,l,rfl,hl,⟨hC,hT⟩,hN,rfl⟩:=h
  exact nv_nonneg hN.1
def WPost (n:Int) (w:World) (e:Ending) (w':World):Prop:=∃ v,e=.returned v∧Wd w' v n∧Below w.heap.size w w'
theorem wd_of {w:World} {b:Nat} {ok:Nat→Prop} {v:Value} {r:List Int} {n:Int} (h:Kd.R (Kd.int .u32) 96 w b ok v r) (hN:Nm r) (hn:nv r=n):Wd w v n:=by
  obtain ⟨A,c,rfl,hl,hC⟩:=Kd.R_reads h
  refine ⟨A,c,r,rfl,hl,⟨hC,fun h0=>?_⟩,hN,hn⟩
  obtain ⟨ad,e,_⟩:=hC.2.2 h0
  subst e
  obtain ⟨_,_,_,q,hq,cells,hc⟩:=(Kd.R_bound h).1 ad.block rfl
  have:q=96:=by
    rcases List.mem_cons.1 hq with e|e
    · exact e
    · cases (show q ∈ ([]:List Nat) from e)
  subst this
  exact ⟨ad,cells,rfl,hc⟩
theorem words_w (x:Nat) (hx:x < 18446744073709551616) (w:World):Calls Tryd.prog 87 #[.int .u64 x] w (WPost x w):=by
  obtain ⟨r,h1,h2,h3,h4⟩:=words_f x hx 10 (by omega)
  refine (bignum_words.calls 10 x r w h1).mono ?_
  rintro e w' ⟨v,rfl,hR,hb⟩
  exact ⟨v,rfl,wd_of hR h3 h2,hb⟩
theorem left_w {w:World} {v:Value} {a:Int} (h:Wd w v a) (hs:Sm a) (n:Nat) (hn:n≤10000000):Calls Tryd.prog 70 #[v,.int .u64 n] w (WPost (a * 2 ^ n) w):=by
  obtain ⟨A,c,l,rfl,hl,⟨hC,hT⟩,hN,rfl⟩:=h
  have hlen:=len_of hN hs
  obtain ⟨r,h1,h2,h3,h4⟩:=left_f l hN.1 n (by omega) (by omega) (2 * l.length + n + 8) (Nat.le_refl _)
  refine (bignum_left.calls _ A c l n r w hC hl h1).mono ?_
  rintro e w' ⟨v,rfl,hR,hb⟩
  exact ⟨v,rfl,wd_of hR h3 h2,hb⟩
theorem mul_w {w:World} {u v:Value} {a b:Int} (h:Wd w u a) (k:Wd w v b) (hs:Sm a) (ks:Sm b):Calls Tryd.prog 81 #[u,v] w (WPost (a * b) w):=by
  obtain ⟨A,c,l,rfl,hl,⟨hC,hT⟩,hN,rfl⟩:=h
  obtain ⟨B,d,m,rfl,km,⟨kC,kT⟩,kN,rfl⟩:=k
  have hlen:=len_of hN hs
  have klen:=len_of kN ks
  obtain ⟨r,h1,h2,h3,h4⟩:=mul_f l m hN kN (by omega) _ (Nat.le_refl _)
  refine (bignum_mul.calls _ A c l B d m r w hC hl kC km h1).mono ?_
  rintro e w' ⟨v,rfl,hR,hb⟩
  exact ⟨v,rfl,wd_of hR h3 h2,hb⟩
theorem sub_w {w:World} {u v:Value} {a b:Int} (h:Wd w u a) (k:Wd w v b) (hs:Sm a) (hle:b≤a):Calls Tryd.prog 75 #[u,v] w (WPost (a - b) w):=by
  obtain ⟨A,c,l,rfl,hl,⟨hC,hT⟩,hN,rfl⟩:=h
  obtain ⟨B,d,m,rfl,km,⟨kC,kT⟩,kN,rfl⟩:=k
  have hlen:=len_of hN hs
  obtain ⟨r,h1,h2,h3,h4⟩:=sub_f l m hN.1 kN (by omega) hle _ (Nat.lt_succ_self _)
  refine (bignum_sub.calls _ A c l B d m r w hC hl kC km h1).mono ?_
  rintro e w' ⟨v,rfl,hR,hb⟩
  exact ⟨v,rfl,wd_of hR h3 h2,hb⟩
theorem cmp_w {w:World} {u v:Value} {a b:Int} (h:Wd w u a) (k:Wd w v b) (hs:Sm a):Calls Tryd.prog 76 #[u,v] w fun e w'=>e=.returned (.int .i64 (if a < b then -1 else if b < a then 1 else 0))∧Below w.heap.size w w':=by
  obtain ⟨A,c,l,rfl,hl,⟨hC,hT⟩,hN,rfl⟩:=h
  obtain ⟨B,d,m,rfl,km,⟨kC,kT⟩,kN,rfl⟩:=k
  have hlen:=len_of hN hs
  refine (bignum_cmp.calls _ A c l B d m _ w hC hl kC km (cmp_f l m hN kN (by omega) _ (Nat.lt_succ_self _))).mono ?_
  rintro e w' ⟨rfl,hd⟩
  exact ⟨rfl,hd.below⟩
theorem add_w {w:World} {u v:Value} {a b:Int} (h:Wd w u a) (k:Wd w v b) (hs:Sm a) (ks:Sm b):Calls Tryd.prog 73 #[u,v] w (WPost (a + b) w):=by
  obtain ⟨A,c,l,rfl,hl,⟨hC,hT⟩,hN,rfl⟩:=h
  obtain ⟨B,d,m,rfl,km,⟨kC,kT⟩,kN,rfl⟩:=k
  have hlen:=len_of hN hs
  have klen:=len_of kN ks
  rcases Nat.lt_or_ge l.length m.length with hlt|hge
  · obtain ⟨r,h1,h2,h3,h4⟩:=add_f m l kN.1 hN.1 (by omega) (by omega) _ (Nat.lt_succ_self _)
    refine (bignum_add.swap _ B d m A c l r w kC km hC hl (decide_eq_true hlt) h1).mono ?_
    rintro e w' ⟨v,rfl,hR,hb⟩
    exact ⟨v,rfl,wd_of hR h3 (by rw [h2,Int.add_comm]),hb⟩
  · obtain ⟨r,h1,h2,h3,h4⟩:=add_f l m hN.1 kN.1 (by omega) hge _ (Nat.lt_succ_self _)
    refine (bignum_add.calls _ A c l B d m r w hC hl kC km (decide_eq_false (by omega)) h1).mono ?_
    rintro e w' ⟨v,rfl,hR,hb⟩
    exact ⟨v,rfl,wd_of hR h3 h2,hb⟩
end Go.Proofs.YtalhpbilkhdfhaaDoor
namespace Go.Proofs.YtalhpbilkhdfhaaDoor
open Go Go.RowKit Nv
open Go.Proofs.YtalhpbilkhdfhaaDoorW.PrintWords (Kd Drawn0 OwnRow Reps)
open XBn (info96)
set_option maxRecDepth 100000
theorem map_reps (l:List Int):Reps (fun x cs=>cs=[Value.int .u32 x]) 1 l (l.map (Value.int .u32)):=by
  refine ⟨by simp,fun j p hp=>?_⟩
  have hj:=(List.getElem?_eq_some_iff.1 hp).1
  have hv:=(List.getElem?_eq_some_iff.1 hp).2
  rw [Nat.mul_one,← List.map_drop,← List.map_take,List.drop_eq_getElem_cons hj,hv];rfl
theorem own_int {w:World} {B:Nat} {v:Value} {l:List Int} (h:w.ownsRow B 96 1 v l.length (l.map (Value.int .u32))):∃ A c,v=.slice A l.length c∧l.length≤c∧Kd.C (Kd.int .u32) w A l.length l :=
  OwnRow.reads ⟨_,h,map_reps l⟩
theorem own_ty {w:World} {B:Nat} {A:Option Addr} {c:Nat} {l:List Int} (h:w.ownsRow B 96 1 (.slice A l.length c) l.length (l.map (Value.int .u32))):Ty w A l:=fun h0=>by
  obtain ⟨_,h|⟨g,cap,cur,e,_,hh,_⟩⟩:=h
  · omega
  · injection e with e1
    subst e1
    exact ⟨⟨g,0,none⟩,cur,rfl,hh⟩
theorem twin_w {w:World} {v:Value} {a:Int} (h:Wd w v a) (hs:Sm a):Calls Tryd.prog 71 #[v] w (WPost a w):=by
  obtain ⟨A,c,l,rfl,hl,⟨hC,hT⟩,hN,rfl⟩:=h
  have hlen:=len_of hN hs
  obtain ⟨i0,hi,hzz⟩:=Option.map_eq_some_iff.1 info96
  simp only [Prod.mk.injEq] at hzz
  obtain ⟨hz0,hz1,hz2⟩:=hzz
  have HN:=Lib.hid hN
  have HC:=Lib.hid hC
  clear hN hC hs
  rcases Nat.eq_zero_or_pos l.length with h0|h0
  · obtain rfl:=List.eq_nil_of_length_eq_zero h0
    cases A
    all_goals
      go_enter Tryd.func71,Tryd.ntmps71
      go_wp2
      go_ret
      exact ⟨.slice none 0 0,rfl,by rw [nv_nil];exact Wd.nil _,Below.refl _ _⟩
  · obtain ⟨ad,rfl,hc⟩:=HC.out.2.2 h0
    have hnews:∀ j u,(l.map (Value.int .u32))[j]?=some u→w.cell? (ad.add j)=some u:=by
      intro j u hu
      rw [List.getElem?_map] at hu
      obtain ⟨p,hp,rfl⟩:=Option.map_eq_some_iff.1 hu
      obtain ⟨cs,_,rfl,hcs⟩:=hc j p hp
      have:=hcs 0 _ rfl
      rw [show (Kd.int IntKind.u32).sz=1 from rfl] at this
      simpa using this
    have HW:=Lib.hid hnews
    clear hc hnews
    go_enter Tryd.func71,Tryd.ntmps71
    go_wp2_with (first
      | (at_builtin;refine wpList_append_own _ rfl _ _ 74 rfl w.heap.size 96 i0 (.int .u32 0) 1 4 Tryd.underlying74 hi hz0 hz1 hz2 rfl (by decide) (.slice none 0 0) 0 [] rfl (World.ownsRow_nil w _ 96 1) ad l.length c (l.map (Value.int .u32)) rfl (by simp) HW.out (fun u hu=>by obtain ⟨x,_,rfl⟩:=List.mem_map.1 hu;rfl) (by unfold maxLen;omega) (by omega) (Nat.le_refl _) ?_;intro v1 w1 hown hg _;have HO:=Lib.hid hown;have HB:=Lib.hid ((Below.refl w.heap.size w).grown hg (Nat.le_refl _) (fun k h=>by cases h));clear hown hg))
    go_ret
    have hown:=HO.out
    rw [Nat.zero_add,List.nil_append] at hown
    obtain ⟨A1,c1,rfl,h1,h2⟩:=own_int hown
    exact ⟨_,rfl,⟨A1,c1,l,rfl,h1,⟨h2,own_ty hown⟩,HN.out,rfl⟩,HB.out⟩
structure Bz (g:Nat) (w w':World):Prop where
  os:w'.os=w.os
  tape:w'.tape=w.tape
  output:w'.output=w.output
  size:w.heap.size≤w'.heap.size
  block:∀ k,k < w.heap.size→k ≠ g→w'.heap[k]?=w.heap[k]?
theorem Bz.of {g:Nat} {w w':World} (h:Below w.heap.size w w'):Bz g w w':=⟨h.os,h.tape,h.output,h.size,fun k hk _=>h.block k hk⟩
theorem Bz.trans {g:Nat} {a b c:World} (h:Bz g a b) (k:Bz g b c):Bz g a c :=
  ⟨k.os.trans h.os,k.tape.trans h.tape,k.output.trans h.output,Nat.le_trans h.size k.size,fun i hi hg=>(k.block i (Nat.lt_of_lt_of_le hi h.size) hg).trans (h.block i hi hg)⟩
theorem Bz.set {g:Nat} {a b:World} (h:Bz g a b) (i:Nat) (u:Value):Bz g a (b.setCell ⟨g,i,none⟩ u) :=
  h.trans ⟨rfl,rfl,rfl,by simp [World.setCell],fun k _ hk=>Below.heap_setCell b ⟨g,i,none⟩ u k hk⟩
theorem Bz.drewN {g:Nat} {a b:World} (h:Bz g a b) (n:Nat):Bz g a (b.drewN n):=⟨h.os,h.tape,h.output,h.size,h.block⟩
theorem Bz.below {g B:Nat} {w0 w w':World} (h:Below B w0 w) (k:Bz g w w') (hB:B≤w.heap.size) (hg:B≤g):Below B w0 w' :=
  ⟨k.os.trans h.os,k.tape.trans h.tape,k.output.trans h.output,Nat.le_trans h.size k.size,fun i hi=>(k.block i (by omega) (by omega)).trans (h.block i hi)⟩
def IntB (w:World) (b:Nat) (ng:Bool) (sl:Value):Prop:=w.heap[b]?=some (.cells #[.bool ng,sl] 76 (0,0))
theorem IntB.c0 {w:World} {b:Nat} {ng:Bool} {sl:Value} (h:IntB w b ng sl):w.cell? ⟨b,0,none⟩=some (.bool ng):=kb_cell h rfl
theorem IntB.c1 {w:World} {b:Nat} {ng:Bool} {sl:Value} (h:IntB w b ng sl):w.cell? ⟨b,1,none⟩=some sl:=kb_cell h rfl
theorem IntB.fz {w:World} {b:Nat} {ng:Bool} {sl:Value} (h:IntB w b ng sl) (i:Nat):w.frozen? ⟨b,i,none⟩=false:=kb_frozen h i
theorem IntB.lt {w:World} {b:Nat} {ng:Bool} {sl:Value} (h:IntB w b ng sl):b < w.heap.size:=kb_lt h
def sg (ng:Bool) (n:Int):Int:=if ng then -n else n
def IntAt (w:World) (b:Nat) (v:Int):Prop:=∃ ng sl n,IntB w b ng sl∧Wd w sl n∧(ng=true→n ≠ 0)∧v=sg ng n
theorem IntAt.lt {w:World} {b:Nat} {v:Int} (h:IntAt w b v):b < w.heap.size:=by obtain ⟨ng,sl,n,h,_⟩:=h;exact h.lt
theorem add_block (a:Addr) (n:Nat):(a.add n).block=a.block:=by unfold Addr.add;split <;> rfl
theorem Wd.bz {w w':World} {z:Nat} {a:Bool} {s v:Value} {n:Int} (h:Wd w v n) (hz:IntB w z a s) (hs:∀ x,s ≠ .int .u32 x) (hb:Bz z w w'):Wd w' v n:=by
  obtain ⟨A,c,l,rfl,hl,⟨hC,hT⟩,hN,hn⟩:=h
  refine ⟨A,c,l,rfl,hl,⟨⟨hC.1,hC.2.1,fun h0=>?_⟩,fun h0=>?_⟩,hN,hn⟩
  rotate_left
  · obtain ⟨ad,cells,e,hc⟩:=hT h0
    have hlt:ad.block < w.heap.size:=kb_lt hc
    have hne:ad.block ≠ z:=fun e2=>by
      rw [e2,hz] at hc
      injection hc with hc
      injection hc with _ ht
      exact absurd ht (by decide)
    exact ⟨ad,cells,e,(hb.block _ hlt hne).trans hc⟩
  obtain ⟨ad,e,hc⟩:=hC.2.2 h0
  have hne:ad.block ≠ z:=by
    obtain ⟨cs,_,hK,hcs⟩:=hc 0 _ (List.getElem?_eq_getElem h0)
    have hK:cs=[.int .u32 l[0]]:=hK
    subst hK
    have h1:=hcs 0 _ rfl
    intro e
    have h2:(ad.add (0 * (Kd.int .u32).sz + 0))=ad:=by simp [Addr.add]
    rw [h2] at h1
    unfold World.cell? at h1
    rw [e,hz] at h1
    simp only at h1
    split at h1
    · cases h1
    · rcases Nat.lt_or_ge ad.off 2 with h3|h3
      · have h4:ad.off=0 ∨ ad.off=1:=by omega
        rcases h4 with h4|h4
        · rw [h4] at h1;simp at h1
        · rw [h4] at h1;simp at h1;exact hs _ h1
      · rw [Array.getElem?_eq_none (by simpa using h3)] at h1;cases h1
  have hlt:ad.block < w.heap.size:=by
    obtain ⟨cs,_,hK,hcs⟩:=hc 0 _ (List.getElem?_eq_getElem h0)
    have hK:cs=[.int .u32 l[0]]:=hK
    subst hK
    have:=World.block_lt_of_cell? w _ (hcs 0 _ rfl)
    rw [add_block] at this
    exact this
  refine ⟨ad,e,fun j p hp=>?_⟩
  obtain ⟨cs,h1,hK,hcs⟩:=hc j p hp
  refine ⟨cs,h1,hK,fun i u hu=>?_⟩
  have:w'.cell? (ad.add (j * (Kd.int .u32).sz + i))=w.cell? (ad.add (j * (Kd.int .u32).sz + i)):=World.cell?_of_block (by rw [add_block];exact hb.block _ hlt hne)
  rw [this]
  exact hcs i u hu
theorem Wd.sl {w:World} {v:Value} {n:Int} (h:Wd w v n):∀ x,v ≠ .int .u32 x:=by
  obtain ⟨A,c,l,rfl,_⟩:=h
  intro x h;cases h
theorem IntAt.keep {w w':World} {b z:Nat} {u v:Int} (h:IntAt w b v) (hz:IntAt w z u) (hne:b ≠ z) (hb:Bz z w w'):IntAt w' b v:=by
  obtain ⟨ng,sl,n,h1,h2,h3,h4⟩:=h
  obtain ⟨ng',sl',n',g1,g2,g3,g4⟩:=hz
  exact ⟨ng,sl,n,(hb.block b h1.lt hne).trans h1,h2.bz g1 g2.sl hb,h3,h4⟩
theorem IntAt.below {w w':World} {b:Nat} {v:Int} (h:IntAt w b v) (hb:Below w.heap.size w w'):IntAt w' b v:=by
  obtain ⟨ng,sl,n,h1,h2,h3,h4⟩:=h
  exact ⟨ng,sl,n,kb_keep hb h1,h2.below hb,h3,h4⟩
theorem IntAt.alloc {w:World} {b:Nat} {v:Int} (h:IntAt w b v) (o:Obj):IntAt (w.alloc o) b v:=h.below ((Below.refl _ _).alloc (Nat.le_refl _) o)
theorem IntAt.drewN {w:World} {b:Nat} {v:Int} (h:IntAt w b v) (n:Nat):IntAt (w.drewN n) b v:=h.below (bl_drewN (Below.refl _ _) n)
theorem IntAt.drew {w:World} {b:Nat} {v:Int} (h:IntAt w b v):IntAt w.drew b v:=h.below (bl_drew (Below.refl _ _))
theorem IntAt.zero (w:World):IntAt (w.alloc (.cells #[.bool false,.slice none 0 0] 76)) w.heap.size 0 :=
  ⟨false,.slice none 0 0,0,kb_new (Below.refl _ _),Wd.nil _,fun h=>(by cases h),rfl⟩
def GPost (z:Nat) (v:Int) (w:World) (e:Ending) (w':World):Prop:=e=.returned (.pointer (some ⟨z,0,none⟩))∧IntAt w' z v∧Bz z w w'
theorem set_both {w:World} {z:Nat} {a b:Bool} {s sl:Value} (h:IntB w z a s):IntB ((w.setCell ⟨z,1,none⟩ sl).setCell ⟨z,0,none⟩ (.bool b)) z b sl:=by
  unfold IntB at h ⊢
  simp [World.setCell,Array.getElem?_modify,h]
theorem give_c {w:World} {z:Nat} {a:Bool} {s sl:Value} {n:Int} (hz:IntB w z a s) (hs:∀ x,s ≠ .int .u32 x) (hW:Wd w sl n) (ng:Bool) :
    Calls Tryd.prog 68 #[.pointer (some ⟨z,0,none⟩),.bool ng,sl] w (GPost z (sg ng n) w):=by
  have key:∀ b:Bool,(b=true→n ≠ 0)→sg b n=sg ng n→GPost z (sg ng n) w (.returned (.pointer (some ⟨z,0,none⟩))) ((w.setCell ⟨z,1,none⟩ sl).setCell ⟨z,0,none⟩ (.bool b)):=fun b h1 h2=>by
    have hb:Bz z w ((w.setCell ⟨z,1,none⟩ sl).setCell ⟨z,0,none⟩ (.bool b)):=((Bz.of (Below.refl _ _)).set 1 sl).set 0 (.bool b)
    exact ⟨rfl,⟨b,sl,n,set_both hz,hW.bz hz hs hb,h1,h2.symm⟩,hb⟩
  obtain ⟨A,c,l,rfl,hl,⟨hC,hT⟩,hN,hn⟩:=hW
  have KEY:=Lib.hid key
  have h0:=hN.zero
  rw [hn] at h0
  have H0:=Lib.hid h0
  have c0:=hz.c0
  have c1:=hz.c1
  have f0:=hz.fz 0
  have f1:=hz.fz 1
  clear key hC hN h0 hn hs hl
  cases ng
  · go_enter Tryd.func68,Tryd.ntmps68
    go_wp2
    go_ret
    exact KEY.out false (fun h=>(by cases h)) rfl
  · by_cases hl0:0 < l.length
    · have k0:decide ((0:Int) < (l.length:Int))=true:=decide_eq_true (by omega)
      have k1:decide (0 < l.length)=true:=decide_eq_true hl0
      go_enter Tryd.func68,Tryd.ntmps68
      go_wp2
      go_ret
      refine KEY.out true (fun _ h=>?_) rfl
      have:=H0.out.1 h
      rw [this] at hl0
      simp at hl0
    · have e:l=[]:=List.eq_nil_of_length_eq_zero (by omega)
      have h1:=H0.out.2 e
      have H1:=Lib.hid h1
      subst e
      clear h1 hl0
      go_enter Tryd.func68,Tryd.ntmps68
      go_wp2
      go_ret
      exact KEY.out false (fun h=>(by cases h)) (by rw [H1.out];rfl)
end Go.Proofs.YtalhpbilkhdfhaaDoor
namespace Go.Proofs.YtalhpbilkhdfhaaDoor
open Go
section
variable {P:Program} {ops:Array Oper} {Q:Exit→Act→World→Prop} {md:Region.Mode} {S:World→Prop} {g:Nat}
def wpG (P:Program) (md:Region.Mode) (ops:Array Oper) (Q:Exit→Act→World→Prop) (S:World→Prop) (g:Nat):Nat→Array Bool→Act→World→Prop
  | 0,listed,a,w=>Region.ready md ops listed=[]∧Q .normal a w
  | fuel + 1,listed,a,w =>
    (Region.ready md ops listed=[]→Q .normal a w) ∧
    ∀ i ∈ Region.ready md ops listed,wpOp P ops Q i (fun a' w'=>((listed.setIfInBounds i true).getD g true=true ∨ S w')∧wpG P md ops Q S g fuel (listed.setIfInBounds i true) a' w') a w
theorem wpAny_of_G:∀ (fuel:Nat) (listed:Array Bool) (a:Act) (w:World),wpG P md ops Q S g fuel listed a w→wpAny P md ops Q fuel listed a w
  | 0,_,_,_,h=>h
  | fuel + 1,_,_,_,h=>⟨h.1,fun i hi=>wpOp_mono (fun a' w' h'=>wpAny_of_G fuel _ a' w' h'.2) (h.2 i hi)⟩
theorem wp_region_G {id:Nat} {a:Act} {w:World} (hm:P.follows .mixedOrders=true)
    (h:wpG P .any ops Q S g ops.size (Array.replicate ops.size false) a w.drew):(Code.region id ops true).wp P Q a w :=
  wp_region_any hm (wpAny_of_G _ _ _ _ h)
theorem wpG_first {i:Nat} {oi:Oper} {v:Value} (hgi:i ≠ g) (hi:ops[i]?=some oi) (hsel:∀ (j:Nat) (o:Oper) cs b,ops[j]?=some o→o.op ≠ .select cs b)
    (hQ:∀ c a w,Q (.panic c) (a.put oi.dst v) w→Q (.panic c) a w) :
    ∀ (fuel:Nat) (listed:Array Bool) (a:Act) (w:World),
      (∀ j oj,ops[j]?=some oj→j ≠ i→listed.getD j true=false→(∀ e ∈ oj.after,Region.binds md e=true→e.on ≠ i)→oi.apart ops oj=true) →
      i ∈ Region.ready md ops listed→Yields P ops oi v a→((listed.setIfInBounds i true).getD g true=true ∨ S w) →
      wpG P md ops Q S g fuel (listed.setIfInBounds i true) (a.put oi.dst v) w→wpG P md ops Q S g (fuel + 1) listed a w:=by
  intro fuel
  induction fuel with
  | zero =>
    intro listed a w _ hr hy hS H
    refine ⟨fun h=>(by rw [h] at hr;cases hr),fun j hj=>?_⟩
    by_cases hji:j=i
    · subst hji;exact hy.wpOp hi ⟨hS,H⟩
    · have:=ready_mono hj hji
      rw [H.1] at this
      cases this
  | succ fuel ih =>
    intro listed a w hfree hr hy hS H
    refine ⟨fun h=>(by rw [h] at hr;cases hr),fun j hj=>?_⟩
    by_cases hji:j=i
    · subst hji;exact hy.wpOp hi ⟨hS,H⟩
    · have h1:=H.2 j (ready_mono hj hji)
      obtain ⟨hjun,oj,hoj,hall⟩:=mem_ready.1 hj
      have hnot:∀ e ∈ oj.after,Region.binds md e=true→e.on ≠ i:=fun e he hb heq=>by
        have h1:=hall e he hb
        have h0:=(mem_ready.1 hr).1
        rw [heq] at h1
        rcases Nat.lt_or_ge i listed.size with h'|h'
        · simp [h'] at h0 h1;rw [h0] at h1;cases h1
        · simp [Array.getElem?_eq_none h'] at h1
      have h2:=wpOp_put hoj (hfree j oj hoj hji hjun hnot) (fun cs b=>hsel i oi cs b hi) (fun cs b=>hsel j oj cs b hoj) hQ hy h1
      have hfree':∀ k ok,ops[k]?=some ok→k ≠ i→(listed.setIfInBounds j true).getD k true=false →
          (∀ e ∈ ok.after,Region.binds md e=true→e.on ≠ i)→oi.apart ops ok=true:=fun k ok hk hki hun hno=>by
        refine hfree k ok hk hki ?_ hno
        by_cases hjk:j=k
        · subst hjk;exact hjun
        · rw [getD_set_ne true hjk] at hun;exact hun
      refine wpOp_mono (fun a' w' h3=>?_) h2
      have e:(listed.setIfInBounds j true).setIfInBounds i true=(listed.setIfInBounds i true).setIfInBounds j true:=Array.setIfInBounds_comm _ _ hji
      have hS2:((listed.setIfInBounds j true).setIfInBounds i true).getD g true=true ∨ S w':=by rw [e];exact h3.2.1
      refine ⟨?_,ih (listed.setIfInBounds j true) a' w' hfree' (ready_mono hr (Ne.symm hji)) h3.1 hS2 (by rw [e];exact h3.2.2)⟩
      rcases h3.2.1 with h4|h4
      · rw [← e,getD_set_ne true hgi] at h4
        exact .inl h4
      · exact .inr h4
def Waits (md:Region.Mode) (ops:Array Oper) (c i:Nat):Bool:=match ops[c]? with
  | some o=>o.after.any fun e=>Region.binds md e && e.on == i
  | none=>false
theorem Waits.not_ready {c i:Nat} {listed:Array Bool} (h:Waits md ops c i=true) (hi:listed.getD i true=false):c ∉ Region.ready md ops listed:=by
  intro hr
  obtain ⟨_,o,ho,hall⟩:=mem_ready.1 hr
  unfold Waits at h
  rw [ho] at h
  obtain ⟨e,he,hb⟩:=Array.any_eq_true'.1 h
  simp only [Bool.and_eq_true,beq_iff_eq] at hb
  have h1:=hall e he hb.1
  rw [hb.2] at h1
  rcases Nat.lt_or_ge i listed.size with h'|h'
  · simp [h'] at hi h1;rw [hi] at h1;cases h1
  · simp [Array.getElem?_eq_none h'] at h1
theorem wpG_load {i c:Nat} {oi:Oper} {v:Value} (hgi:i ≠ g) (hci:Waits md ops c i=true) (hgc:(g == c || Waits md ops g c)=true) (hi:ops[i]?=some oi) (hsel:∀ (j:Nat) (o:Oper) cs b,ops[j]?=some o→o.op ≠ .select cs b)
    (hQ:∀ c a w,Q (.panic c) (a.put oi.dst v) w→Q (.panic c) a w) :
    ∀ (fuel:Nat) (listed:Array Bool) (a:Act) (w:World),
      (∀ j oj,ops[j]?=some oj→j ≠ i→listed.getD j true=false→(∀ e ∈ oj.after,Region.binds md e=true→e.on ≠ i)→oi.apart ops oj=true) →
      i ∈ Region.ready md ops listed→listed.getD c true=false→listed.getD g true=false→YieldsIf P ops S oi v a→S w →
      wpG P md ops Q S g fuel (listed.setIfInBounds i true) (a.put oi.dst v) w→wpG P md ops Q S g (fuel + 1) listed a w:=by
  intro fuel
  induction fuel with
  | zero =>
    intro listed a w _ hr hc hg hy hS H
    refine ⟨fun h=>(by rw [h] at hr;cases hr),fun j hj=>?_⟩
    by_cases hji:j=i
    · subst hji;exact hy.wpOp hi hS ⟨.inr hS,H⟩
    · have:=ready_mono hj hji
      rw [H.1] at this
      cases this
  | succ fuel ih =>
    intro listed a w hfree hr hc hg hy hS H
    refine ⟨fun h=>(by rw [h] at hr;cases hr),fun j hj=>?_⟩
    by_cases hji:j=i
    · subst hji;exact hy.wpOp hi hS ⟨.inr hS,H⟩
    · have h1:=H.2 j (ready_mono hj hji)
      have hun:=(mem_ready.1 hr).1
      have hjc:j ≠ c:=fun h=>Waits.not_ready hci hun (h ▸ hj)
      have hjg:j ≠ g:=fun h=>by
        rcases Bool.or_eq_true_iff.1 hgc with h2|h2
        · exact hjc (h.trans (beq_iff_eq.1 h2))
        · exact Waits.not_ready h2 hc (h ▸ hj)
      obtain ⟨hjun,oj,hoj,hall⟩:=mem_ready.1 hj
      have hnot:∀ e ∈ oj.after,Region.binds md e=true→e.on ≠ i:=fun e he hb heq=>by
        have h1:=hall e he hb
        rw [heq] at h1
        rcases Nat.lt_or_ge i listed.size with h'|h'
        · simp [h'] at hun h1;rw [hun] at h1;cases h1
        · simp [Array.getElem?_eq_none h'] at h1
      have h2:=wpOp_putIf hoj (hfree j oj hoj hji hjun hnot) (fun cs b=>hsel i oi cs b hi) (fun cs b=>hsel j oj cs b hoj) hQ hy h1
      have hfree':∀ k ok,ops[k]?=some ok→k ≠ i→(listed.setIfInBounds j true).getD k true=false →
          (∀ e ∈ ok.after,Region.binds md e=true→e.on ≠ i)→oi.apart ops ok=true:=fun k ok hk hki hun hno=>by
        refine hfree k ok hk hki ?_ hno
        by_cases hjk:j=k
        · subst hjk;exact hjun
        · rw [getD_set_ne true hjk] at hun;exact hun
      refine wpOp_mono (fun a' w' h3=>?_) h2
      have e:(listed.setIfInBounds j true).setIfInBounds i true=(listed.setIfInBounds i true).setIfInBounds j true:=Array.setIfInBounds_comm _ _ hji
      have hS2:S w':=by
        rcases h3.2.1 with h4|h4
        · rw [← e,getD_set_ne true hgi,getD_set_ne true hjg,hg] at h4;cases h4
        · exact h4
      exact ⟨.inr hS2,ih (listed.setIfInBounds j true) a' w' hfree' (ready_mono hr (Ne.symm hji)) (by rw [getD_set_ne true hjc];exact hc) (by rw [getD_set_ne true hjg];exact hg) h3.1 hS2 (by rw [e];exact h3.2.2)⟩
theorem wpG_take {i:Nat} {oi:Oper} {v:Value} {fuel:Nat} {listed:Array Bool} {a:Act} {w:World} (hi:ops[i]?=some oi) (hgi:(i != g)=true)
    (hs:Region.noSelect ops=true) (hf:Region.free md ops listed i=true) (hr:(Region.ready md ops listed).contains i=true)
    (hQ:∀ c a w,Q (.panic c) (a.put oi.dst v) w→Q (.panic c) a w) (hy:Yields P ops oi v a) (hS:(listed.setIfInBounds i true).getD g true=true ∨ S w)
    (h:wpG P md ops Q S g fuel (listed.setIfInBounds i true) (a.put oi.dst v) w):wpG P md ops Q S g (fuel + 1) listed a w :=
  wpG_first (by simpa using hgi) hi (Region.noSelect_spec hs) hQ fuel listed a w (Region.free_spec hi hf) (by simpa using hr) hy hS h
theorem wpG_ld {i:Nat} (c:Nat) {oi:Oper} {v:Value} {fuel:Nat} {listed:Array Bool} {a:Act} {w:World} (hi:ops[i]?=some oi) (hgi:(i != g)=true)
    (hs:Region.noSelect ops=true) (hf:Region.free md ops listed i=true) (hr:(Region.ready md ops listed).contains i=true)
    (hw:(Waits md ops c i && (g == c || Waits md ops g c) && !(listed.getD c true) && !(listed.getD g true))=true)
    (hQ:∀ c a w,Q (.panic c) (a.put oi.dst v) w→Q (.panic c) a w) (hy:YieldsIf P ops S oi v a) (hS:S w)
    (h:wpG P md ops Q S g fuel (listed.setIfInBounds i true) (a.put oi.dst v) w):wpG P md ops Q S g (fuel + 1) listed a w:=by
  simp only [Bool.and_eq_true,Bool.not_eq_true'] at hw
  exact wpG_load (by simpa using hgi) hw.1.1.1 hw.1.1.2 hi (Region.noSelect_spec hs) hQ fuel listed a w (Region.free_spec hi hf) (by simpa using hr) hw.1.2 hw.2 hy hS h
theorem wpG_one {i:Nat} {o:Oper} {fuel:Nat} {listed:Array Bool} {a:Act} {w:World} (hr:Region.ready md ops listed=[i]) (hi:ops[i]?=some o)
    (h:∀ K':Act→World→Prop,(∀ a' w',((listed.setIfInBounds i true).getD g true=true ∨ S w')→wpG P md ops Q S g fuel (listed.setIfInBounds i true) a' w'→K' a' w')→if Region.wanted o (yielded ops a.tmps)=true then Oper.wp P o a w K' Q else K' (a.put o.dst undef) w):wpG P md ops Q S g (fuel + 1) listed a w:=by
  refine ⟨fun h0=>(by rw [hr] at h0;cases h0),fun j hj=>?_⟩
  rw [hr,List.mem_singleton] at hj
  subst hj
  exact wpOp_step hi (fun K' hK=>h K' (fun a' w' h1 h2=>hK a' w' ⟨h1,h2⟩))
theorem wpG_done {listed:Array Bool} {a:Act} {w:World} (hr:Region.ready md ops listed=[]) (h:Q .normal a w):∀ fuel,wpG P md ops Q S g fuel listed a w
  | 0=>⟨hr,h⟩
  | _ + 1=>⟨fun _=>h,by rw [hr];simp⟩
end
end Go.Proofs.YtalhpbilkhdfhaaDoor
namespace Go.Proofs.YtalhpbilkhdfhaaDoor
open Go Go.RowKit Nv
set_option maxRecDepth 100000
set_option linter.unusedSimpArgs false
abbrev pt (b:Nat):Value:=.pointer (some ⟨b,0,none⟩)
theorem GPost.after {z:Nat} {v:Int} {w w1 w':World} {e:Ending} (hb:Below w.heap.size w w1) (h:GPost z v w1 e w'):GPost z v w e w':=⟨h.1,h.2.1,(Bz.of hb).trans h.2.2⟩
theorem IntB.below {w w':World} {b:Nat} {ng:Bool} {sl:Value} (h:IntB w b ng sl) (hb:Below w.heap.size w w'):IntB w' b ng sl:=kb_keep hb h
theorem dr_below (w:World):Below w.heap.size w w.drew:=bl_drew (Below.refl _ _)
theorem setU_c {w:World} {z:Nat} {v:Int} (hz:IntAt w z v) (x:Nat) (hx:x < 18446744073709551616):Calls Tryd.prog 63 #[pt z,.int .u64 x] w (GPost z x w):=by
  obtain ⟨ng,sl,n,h1,h2,h3,h4⟩:=hz
  have H1:=Lib.hid h1
  have H2:=Lib.hid h2
  have ww:∀ w,Calls Tryd.prog 87 #[.int .u64 x] w (WPost x w):=fun w=>words_w x hx w
  clear h1 h2 h3 h4 hx
  go_enter Tryd.func63,Tryd.ntmps63
  go_wp2_with (first
    | (go_at_call 87;refine (ww _).mono ?_;rintro e w1 ⟨v1,rfl,hW,hb⟩;have HW:=Lib.hid hW;have HB:=Lib.hid hb;clear hW hb)
    | (go_at_call 68;refine (give_c (H1.out.below HB.out) H2.out.sl HW.out false).mono ?_;rintro e w2 ⟨rfl,hI,hz⟩;have HI:=Lib.hid hI;have HZ:=Lib.hid hz;clear hI hz))
  go_ret
  exact ⟨rfl,HI.out,(Bz.of HB.out).trans HZ.out⟩
set_option maxHeartbeats 1600000 in
theorem lsh_c {w:World} {z x:Nat} {u v:Int} (hz:IntAt w z u) (hx:IntAt w x v) (n:Nat) (hn:n≤10000000) (hs:Sm v.natAbs):Calls Tryd.prog 47 #[pt z,pt x,.int .u64 n] w (GPost z (v * 2 ^ n) w):=by
  obtain ⟨ng,sl,a,h1,h2,h3,h4⟩:=hz
  obtain ⟨xg,xs,b,g1,g2,g3,g4⟩:=hx
  have e1:(v.natAbs:Int)=b:=by rw [g4];unfold sg;have:=g2.nonneg;split <;> omega
  rw [e1] at hs
  have e2:sg xg (b * 2 ^ n)=v * 2 ^ n:=by rw [g4];unfold sg;split <;> simp [Int.neg_mul]
  have c0:=g1.c0
  have c1:=g1.c1
  have hlt:=g1.lt
  have H1:=Lib.hid h1
  have H2:=Lib.hid h2
  have G2:=Lib.hid g2
  have E2:=Lib.hid e2
  have lw:∀ w',Below w.heap.size w w'→Calls Tryd.prog 70 #[xs,.int .u64 n] w' (WPost (b * 2 ^ n) w'):=fun w' hb=>left_w (g2.below hb) hs n hn
  have LW:=Lib.hid lw
  have HL:=Lib.hid hlt
  clear h1 h2 h3 h4 g1 g2 g3 g4 e1 e2 hs hn lw
  go_enter Tryd.func47,Tryd.ntmps47
  go_wp2
  go_region_with (first
    | (go_at_call 70;refine (LW.out _ ?_).mono ?_;exact dr_below _;rintro e w1 ⟨v1,rfl,hW,hb⟩;have cc0:=hb.cell (p:=⟨x,0,none⟩) HL.out;have HW:=Lib.hid hW;have HB:=Lib.hid ((dr_below w).trans hb);clear hW hb)
    | (go_at_call 68;refine (give_c (H1.out.below HB.out) H2.out.sl HW.out xg).mono ?_;rintro e w2 ⟨rfl,hI,hz⟩;have HI:=Lib.hid hI;have HZ:=Lib.hid hz;clear hI hz))
  all_goals go_wp2
  all_goals go_ret
  all_goals exact ⟨rfl,by rw [← E2.out];exact HI.out,(Bz.of HB.out).trans HZ.out⟩
structure Rd (w:World) (b:Nat) (v:Int) (ng:Bool) (sl:Value) (n:Int):Prop where
  blk:IntB w b ng sl
  wd:Wd w sl n
  val:v=sg ng n
  nz:ng=true→n ≠ 0
theorem IntAt.rd {w:World} {b:Nat} {v:Int} (h:IntAt w b v):∃ ng sl n,Rd w b v ng sl n:=by
  obtain ⟨ng,sl,n,h1,h2,h3,h4⟩:=h
  exact ⟨ng,sl,n,h1,h2,h4,h3⟩
theorem Rd.abs {w:World} {b:Nat} {v:Int} {ng:Bool} {sl:Value} {n:Int} (h:Rd w b v ng sl n):(v.natAbs:Int)=n:=by
  rw [h.val];unfold sg;have:=h.wd.nonneg;split <;> omega
theorem Rd.sm {w:World} {b:Nat} {v:Int} {ng:Bool} {sl:Value} {n:Int} (h:Rd w b v ng sl n) (hs:Sm v.natAbs):Sm n:=by rw [← h.abs];exact hs
set_option maxHeartbeats 1600000 in
theorem neg_c {w:World} {z x:Nat} {u v:Int} (hz:IntAt w z u) (hx:IntAt w x v) (hs:Sm v.natAbs):Calls Tryd.prog 64 #[pt z,pt x] w (GPost z (-v) w):=by
  obtain ⟨zg,zs,a,hz⟩:=hz.rd
  obtain ⟨xg,xs,b,hx⟩:=hx.rd
  have hb:=hx.sm hs
  have e2:sg (!xg) b=-v:=by rw [hx.val];unfold sg;cases xg <;> simp
  have c0:=hx.blk.c0
  have c1:=hx.blk.c1
  have HX:=Lib.hid hx
  have HZ0:=Lib.hid hz
  have E2:=Lib.hid e2
  have lw:∀ w',Below w.heap.size w w'→Calls Tryd.prog 71 #[xs] w' (WPost b w'):=fun w' h=>twin_w (hx.wd.below h) hb
  have LW:=Lib.hid lw
  clear hz hx e2 hs hb lw
  go_enter Tryd.func64,Tryd.ntmps64
  go_wp2
  go_region_with (first
    | (go_at_call 71;refine (LW.out _ ?_).mono ?_;exact dr_below _;rintro e w1 ⟨v1,rfl,hW,hb⟩;have cc0:=hb.cell (p:=⟨x,0,none⟩) HX.out.blk.lt;have HW:=Lib.hid hW;have HB:=Lib.hid ((dr_below w).trans hb);clear hW hb)
    | (go_at_call 68;refine (give_c (HZ0.out.blk.below HB.out) HZ0.out.wd.sl HW.out (!xg)).mono ?_;rintro e w2 ⟨rfl,hI,hz⟩;have HI:=Lib.hid hI;have HZ:=Lib.hid hz;clear hI hz))
  all_goals go_wp2
  all_goals go_ret
  all_goals exact ⟨rfl,by rw [← E2.out];exact HI.out,(Bz.of HB.out).trans HZ.out⟩
theorem mul_sg (xg yg:Bool) (a b:Int):sg (xg != yg) (a * b)=sg xg a * sg yg b:=by cases xg <;> cases yg <;> simp [sg,Int.neg_mul,Int.mul_neg]
set_option maxHeartbeats 6400000 in
theorem mul_c {w:World} {z x y:Nat} {u v t:Int} (hz:IntAt w z u) (hx:IntAt w x v) (hy:IntAt w y t) (hs:Sm v.natAbs) (ks:Sm t.natAbs):Calls Tryd.prog 60 #[pt z,pt x,pt y] w (GPost z (v * t) w):=by
  obtain ⟨zg,zs,a,hz⟩:=hz.rd
  obtain ⟨xg,xs,b,hx⟩:=hx.rd
  obtain ⟨yg,ys,c,hy⟩:=hy.rd
  have e2:sg (xg != yg) (b * c)=v * t:=by rw [hx.val,hy.val,mul_sg]
  have c0:=hx.blk.c0
  have c1:=hx.blk.c1
  have d0:=hy.blk.c0
  have d1:=hy.blk.c1
  have HX:=Lib.hid hx
  have HY:=Lib.hid hy
  have HZ0:=Lib.hid hz
  have E2:=Lib.hid e2
  have lw:∀ w',Below w.heap.size w w'→Calls Tryd.prog 81 #[xs,ys] w' (WPost (b * c) w'):=fun w' h=>mul_w (hx.wd.below h) (hy.wd.below h) (hx.sm hs) (hy.sm ks)
  have LW:=Lib.hid lw
  clear hz hx hy e2 hs ks lw
  go_enter Tryd.func60,Tryd.ntmps60
  go_wp2
  have hS:w.drew.cell? ⟨x,0,none⟩=some (.bool xg)∧w.drew.cell? ⟨x,1,none⟩=some xs∧w.drew.cell? ⟨y,0,none⟩=some (.bool yg)∧w.drew.cell? ⟨y,1,none⟩=some ys:=⟨c0,c1,d0,d1⟩
  refine wp_region_G (g:=19) (S:=fun w'=>w'.cell? ⟨x,0,none⟩=some (.bool xg)∧w'.cell? ⟨x,1,none⟩=some xs∧w'.cell? ⟨y,0,none⟩=some (.bool yg)∧w'.cell? ⟨y,1,none⟩=some ys) (by kernel_rfl) ?_
  (refine wpG_take (i:=0) (v:=?_) rfl rfl (by kernel_rfl) (by kernel_rfl) (by kernel_rfl) (fun _ _ _ h=>h) (Or.inl ⟨by rfl,fun w=>?_⟩) (Or.inr hS) ?_;rotate_left;focus (go_simp;first|done|with_reducible rfl|exact rfl));(try simp only [Act.put,zA,zB,zC,zD,zE,zF]);(refine wpG_take (i:=1) (v:=?_) rfl rfl (by kernel_rfl) (by kernel_rfl) (by kernel_rfl) (fun _ _ _ h=>h) (Or.inl ⟨by rfl,fun w=>?_⟩) (Or.inr hS) ?_;rotate_left;focus (go_simp;first|done|with_reducible rfl|exact rfl));(try simp only [Act.put,zA,zB,zC,zD,zE,zF]);(refine wpG_take (i:=2) (v:=?_) rfl rfl (by kernel_rfl) (by kernel_rfl) (by kernel_rfl) (fun _ _ _ h=>h) (Or.inl ⟨by rfl,fun w=>?_⟩) (Or.inr hS) ?_;rotate_left;focus (go_simp;first|done|with_reducible rfl|exact rfl));(try simp only [Act.put,zA,zB,zC,zD,zE,zF]);(refine wpG_take (i:=3) (v:=?_) rfl rfl (by kernel_rfl) (by kernel_rfl) (by kernel_rfl) (fun _ _ _ h=>h) (Or.inl ⟨by rfl,fun w=>?_⟩) (Or.inr hS) ?_;rotate_left;focus (go_simp;first|done|with_reducible rfl|exact rfl));(try simp only [Act.put,zA,zB,zC,zD,zE,zF])
  (refine wpG_ld (i:=4) 9 (v:=?_) rfl rfl (by kernel_rfl) (by kernel_rfl) (by kernel_rfl) (by kernel_rfl) (fun _ _ _ h=>h) (Or.inl ⟨by rfl,?_⟩) hS ?_;rotate_left;focus (intro w hSw;(try dsimp only at hSw);go_simp;first|done|with_reducible rfl|exact rfl));(try simp only [Act.put,zA,zB,zC,zD,zE,zF])
  (refine wpG_take (i:=5) (v:=?_) rfl rfl (by kernel_rfl) (by kernel_rfl) (by kernel_rfl) (fun _ _ _ h=>h) (Or.inl ⟨by rfl,fun w=>?_⟩) (Or.inr hS) ?_;rotate_left;focus (go_simp;first|done|with_reducible rfl|exact rfl));(try simp only [Act.put,zA,zB,zC,zD,zE,zF]);(refine wpG_take (i:=6) (v:=?_) rfl rfl (by kernel_rfl) (by kernel_rfl) (by kernel_rfl) (fun _ _ _ h=>h) (Or.inl ⟨by rfl,fun w=>?_⟩) (Or.inr hS) ?_;rotate_left;focus (go_simp;first|done|with_reducible rfl|exact rfl));(try simp only [Act.put,zA,zB,zC,zD,zE,zF]);(refine wpG_take (i:=7) (v:=?_) rfl rfl (by kernel_rfl) (by kernel_rfl) (by kernel_rfl) (fun _ _ _ h=>h) (Or.inl ⟨by rfl,fun w=>?_⟩) (Or.inr hS) ?_;rotate_left;focus (go_simp;first|done|with_reducible rfl|exact rfl));(try simp only [Act.put,zA,zB,zC,zD,zE,zF])
  (refine wpG_ld (i:=8) 9 (v:=?_) rfl rfl (by kernel_rfl) (by kernel_rfl) (by kernel_rfl) (by kernel_rfl) (fun _ _ _ h=>h) (Or.inl ⟨by rfl,?_⟩) hS ?_;rotate_left;focus (intro w hSw;(try dsimp only at hSw);go_simp;first|done|with_reducible rfl|exact rfl));(try simp only [Act.put,zA,zB,zC,zD,zE,zF])
  (refine wpG_take (i:=9) (v:=?_) rfl rfl (by kernel_rfl) (by kernel_rfl) (by kernel_rfl) (fun _ _ _ h=>h) (Or.inl ⟨by rfl,fun w=>?_⟩) (Or.inr hS) ?_;rotate_left;focus (go_simp;first|done|with_reducible rfl|exact rfl));(try simp only [Act.put,zA,zB,zC,zD,zE,zF]);(refine wpG_take (i:=10) (v:=?_) rfl rfl (by kernel_rfl) (by kernel_rfl) (by kernel_rfl) (fun _ _ _ h=>h) (Or.inl ⟨by rfl,fun w=>?_⟩) (Or.inr hS) ?_;rotate_left;focus (go_simp;first|done|with_reducible rfl|exact rfl));(try simp only [Act.put,zA,zB,zC,zD,zE,zF]);(refine wpG_take (i:=11) (v:=?_) rfl rfl (by kernel_rfl) (by kernel_rfl) (by kernel_rfl) (fun _ _ _ h=>h) (Or.inl ⟨by rfl,fun w=>?_⟩) (Or.inr hS) ?_;rotate_left;focus (go_simp;first|done|with_reducible rfl|exact rfl));(try simp only [Act.put,zA,zB,zC,zD,zE,zF]);(refine wpG_take (i:=12) (v:=?_) rfl rfl (by kernel_rfl) (by kernel_rfl) (by kernel_rfl) (fun _ _ _ h=>h) (Or.inl ⟨by rfl,fun w=>?_⟩) (Or.inr hS) ?_;rotate_left;focus (go_simp;first|done|with_reducible rfl|exact rfl));(try simp only [Act.put,zA,zB,zC,zD,zE,zF])
  (refine wpG_ld (i:=13) 18 (v:=?_) rfl rfl (by kernel_rfl) (by kernel_rfl) (by kernel_rfl) (by kernel_rfl) (fun _ _ _ h=>h) (Or.inl ⟨by rfl,?_⟩) hS ?_;rotate_left;focus (intro w hSw;(try dsimp only at hSw);go_simp;first|done|with_reducible rfl|exact rfl));(try simp only [Act.put,zA,zB,zC,zD,zE,zF])
  (refine wpG_take (i:=14) (v:=?_) rfl rfl (by kernel_rfl) (by kernel_rfl) (by kernel_rfl) (fun _ _ _ h=>h) (Or.inl ⟨by rfl,fun w=>?_⟩) (Or.inr hS) ?_;rotate_left;focus (go_simp;first|done|with_reducible rfl|exact rfl));(try simp only [Act.put,zA,zB,zC,zD,zE,zF]);(refine wpG_take (i:=15) (v:=?_) rfl rfl (by kernel_rfl) (by kernel_rfl) (by kernel_rfl) (fun _ _ _ h=>h) (Or.inl ⟨by rfl,fun w=>?_⟩) (Or.inr hS) ?_;rotate_left;focus (go_simp;first|done|with_reducible rfl|exact rfl));(try simp only [Act.put,zA,zB,zC,zD,zE,zF]);(refine wpG_take (i:=16) (v:=?_) rfl rfl (by kernel_rfl) (by kernel_rfl) (by kernel_rfl) (fun _ _ _ h=>h) (Or.inl ⟨by rfl,fun w=>?_⟩) (Or.inr hS) ?_;rotate_left;focus (go_simp;first|done|with_reducible rfl|exact rfl));(try simp only [Act.put,zA,zB,zC,zD,zE,zF])
  (refine wpG_ld (i:=17) 18 (v:=?_) rfl rfl (by kernel_rfl) (by kernel_rfl) (by kernel_rfl) (by kernel_rfl) (fun _ _ _ h=>h) (Or.inl ⟨by rfl,?_⟩) hS ?_;rotate_left;focus (intro w hSw;(try dsimp only at hSw);go_simp;first|done|with_reducible rfl|exact rfl));(try simp only [Act.put,zA,zB,zC,zD,zE,zF])
  refine wpG_one (i:=18) (by kernel_rfl) rfl (fun K hK=>?_);have HK:=Lib.hid hK;clear hK
  go_simp
  refine (LW.out _ (dr_below _)).mono ?_
  rintro e w1 ⟨v1,rfl,hW,hb⟩
  have HW:=Lib.hid hW
  have HB:=Lib.hid ((dr_below w).trans hb)
  refine HK.out _ _ (Or.inr ⟨(hb.cell (p:=⟨x,0,none⟩) HX.out.blk.lt).trans hS.1,(hb.cell (p:=⟨x,1,none⟩) HX.out.blk.lt).trans hS.2.1,(hb.cell (p:=⟨y,0,none⟩) HY.out.blk.lt).trans hS.2.2.1,(hb.cell (p:=⟨y,1,none⟩) HY.out.blk.lt).trans hS.2.2.2⟩) ?_
  clear hW hb HK K
  (try simp only [Act.put,zA,zB,zC,zD,zE,zF])
  refine wpG_one (i:=19) (by kernel_rfl) rfl (fun K hK=>?_);have HK:=Lib.hid hK;clear hK
  go_simp
  refine (give_c (HZ0.out.blk.below HB.out) HZ0.out.wd.sl HW.out (xg != yg)).mono ?_
  rintro e w2 ⟨rfl,hI,hz⟩
  have HI:=Lib.hid hI
  have HZ:=Lib.hid hz
  refine HK.out _ _ (Or.inl (by kernel_rfl)) ?_
  clear hI hz HK K
  (try simp only [Act.put,zA,zB,zC,zD,zE,zF])
  refine wpG_one (i:=20) (by kernel_rfl) rfl (fun K hK=>?_);have HK:=Lib.hid hK;clear hK
  go_simp
  refine HK.out _ _ (Or.inl (by kernel_rfl)) ?_
  clear HK K
  (try simp only [Act.put,zA,zB,zC,zD,zE,zF])
  refine wpG_done (by kernel_rfl) ?_ _
  go_wp2
  go_ret
  exact ⟨rfl,by rw [← E2.out];exact HI.out,(Bz.of HB.out).trans HZ.out⟩
end Go.Proofs.YtalhpbilkhdfhaaDoor
namespace Go.Proofs.YtalhpbilkhdfhaaDoor
open Go Go.RowKit Nv
set_option maxRecDepth 100000
set_option linter.unusedSimpArgs false
def SPost (s:Int) (w:World) (e:Ending) (w':World):Prop:=∃ ng v n,e=.returned (.tuple #[.bool ng,v])∧Wd w' v n∧sg ng n=s∧Below w.heap.size w w'
set_option maxHeartbeats 1600000 in
theorem sum_c {w:World} {u v:Value} {a b:Int} (xg yg:Bool) (h:Wd w u a) (k:Wd w v b) (hs:Sm a) (ks:Sm b):Calls Tryd.prog 69 #[.bool xg,u,.bool yg,v] w (SPost (sg xg a + sg yg b) w):=by
  have ha:=h.nonneg
  have hb:=k.nonneg
  have ad:∀ w',Below w.heap.size w w'→Calls Tryd.prog 73 #[u,v] w' (WPost (a + b) w'):=fun w' hb=>add_w (h.below hb) (k.below hb) hs ks
  have cm:∀ w',Below w.heap.size w w'→Calls Tryd.prog 76 #[u,v] w' fun e w''=>e=.returned (.int .i64 (if a < b then -1 else if b < a then 1 else 0))∧Below w'.heap.size w' w'':=fun w' hb=>cmp_w (h.below hb) (k.below hb) hs
  have s1:b≤a→∀ w',Below w.heap.size w w'→Calls Tryd.prog 75 #[u,v] w' (WPost (a - b) w'):=fun hle w' hb=>sub_w (h.below hb) (k.below hb) hs hle
  have s2:a≤b→∀ w',Below w.heap.size w w'→Calls Tryd.prog 75 #[v,u] w' (WPost (b - a) w'):=fun hle w' hb=>sub_w (k.below hb) (h.below hb) ks hle
  have AD:=Lib.hid ad
  have CM:=Lib.hid cm
  have S1:=Lib.hid s1
  have S2:=Lib.hid s2
  have HA:=Lib.hid ha
  have HB0:=Lib.hid hb
  clear h k hs ks ad cm s1 s2 ha hb
  by_cases hx:xg=yg
  · subst hx
    go_enter Tryd.func69,Tryd.ntmps69
    go_wp2_with (first
      | (go_at_call 73;refine (AD.out _ (Below.refl _ _)).mono ?_;rintro e w1 ⟨v1,rfl,hW,hb⟩;have HW:=Lib.hid hW;have HB:=Lib.hid hb;clear hW hb))
    go_ret2
    exact ⟨xg,v1,a + b,rfl,HW.out,by unfold sg;split <;> omega,HB.out⟩
  · have e1:(xg == yg)=false:=by simpa using hx
    have HX:=Lib.hid hx
    clear hx
    by_cases hlt:a < b
    · have HL:=Lib.hid hlt
      have e2:(if a < b then (-1:Int) else if b < a then 1 else 0)=-1:=if_pos hlt
      rw [e2] at CM
      clear hlt e2
      go_enter Tryd.func69,Tryd.ntmps69
      go_wp2_with (first
        | (go_at_call 76;refine (CM.out _ (Below.refl _ _)).mono ?_;rintro e w1 ⟨rfl,hb⟩;have HB:=Lib.hid hb;clear hb)
        | (go_at_call 75;refine (S2.out (Int.le_of_lt HL.out) _ HB.out).mono ?_;rintro e w2 ⟨v1,rfl,hW,hb⟩;have HW:=Lib.hid hW;have HB2:=Lib.hid hb;clear hW hb))
      go_ret2
      exact ⟨yg,v1,b - a,rfl,HW.out,by have:=HX.out;unfold sg;cases xg <;> cases yg <;> simp at this ⊢ <;> omega,bl_then HB.out HB2.out⟩
    · obtain ⟨c,hc,h0⟩:∃ c:Int,(if a < b then (-1:Int) else if b < a then 1 else 0)=c∧0≤c:=⟨_,rfl,by rw [if_neg hlt];split <;> omega⟩
      rw [hc] at CM
      have HL:=Lib.hid hlt
      clear hlt hc
      go_enter Tryd.func69,Tryd.ntmps69
      go_wp2_with (first
        | (go_at_call 76;refine (CM.out _ (Below.refl _ _)).mono ?_;rintro e w1 ⟨rfl,hb⟩;have HB:=Lib.hid hb;clear hb)
        | (go_at_call 75;refine (S1.out (by have:=HL.out;omega) _ HB.out).mono ?_;rintro e w2 ⟨v1,rfl,hW,hb⟩;have HW:=Lib.hid hW;have HB2:=Lib.hid hb;clear hW hb))
      go_ret2
      exact ⟨xg,v1,a - b,rfl,HW.out,by have:=HX.out;unfold sg;cases xg <;> cases yg <;> simp at this ⊢ <;> omega,bl_then HB.out HB2.out⟩
set_option maxHeartbeats 1600000 in
theorem sub_c {w:World} {z x y:Nat} {u v t:Int} (hz:IntAt w z u) (hx:IntAt w x v) (hy:IntAt w y t) (hs:Sm v.natAbs) (ks:Sm t.natAbs):Calls Tryd.prog 53 #[pt z,pt x,pt y] w (GPost z (v - t) w):=by
  obtain ⟨zg,zs,a,hz⟩:=hz.rd
  obtain ⟨xg,xs,b,hx⟩:=hx.rd
  obtain ⟨yg,ys,c,hy⟩:=hy.rd
  have e2:sg xg b + sg (!yg) c=v - t:=by rw [hx.val,hy.val];unfold sg;cases xg <;> cases yg <;> simp <;> omega
  have c0:=hx.blk.c0
  have c1:=hx.blk.c1
  have d0:=hy.blk.c0
  have d1:=hy.blk.c1
  have HZ0:=Lib.hid hz
  have E2:=Lib.hid e2
  have lw:∀ w',Below w.heap.size w w'→Calls Tryd.prog 69 #[.bool xg,xs,.bool (!yg),ys] w' (SPost (sg xg b + sg (!yg) c) w'):=fun w' h=>sum_c xg (!yg) (hx.wd.below h) (hy.wd.below h) (hx.sm hs) (hy.sm ks)
  have LW:=Lib.hid lw
  clear hz hx hy e2 hs ks lw
  go_enter Tryd.func53,Tryd.ntmps53
  go_wp2
  have hS:w.drew.cell? ⟨x,0,none⟩=some (.bool xg)∧w.drew.cell? ⟨x,1,none⟩=some xs∧w.drew.cell? ⟨y,0,none⟩=some (.bool yg)∧w.drew.cell? ⟨y,1,none⟩=some ys:=⟨c0,c1,d0,d1⟩
  refine wp_region_G (g:=18) (S:=fun w'=>w'.cell? ⟨x,0,none⟩=some (.bool xg)∧w'.cell? ⟨x,1,none⟩=some xs∧w'.cell? ⟨y,0,none⟩=some (.bool yg)∧w'.cell? ⟨y,1,none⟩=some ys) (by kernel_rfl) ?_
  (refine wpG_take (i:=0) (v:=?_) rfl rfl (by kernel_rfl) (by kernel_rfl) (by kernel_rfl) (fun _ _ _ h=>h) (Or.inl ⟨by rfl,fun w=>?_⟩) (Or.inr hS) ?_;rotate_left;focus (go_simp;first|done|with_reducible rfl|exact rfl));(try simp only [Act.put,zA,zB,zC,zD,zE,zF]);(refine wpG_take (i:=1) (v:=?_) rfl rfl (by kernel_rfl) (by kernel_rfl) (by kernel_rfl) (fun _ _ _ h=>h) (Or.inl ⟨by rfl,fun w=>?_⟩) (Or.inr hS) ?_;rotate_left;focus (go_simp;first|done|with_reducible rfl|exact rfl));(try simp only [Act.put,zA,zB,zC,zD,zE,zF]);(refine wpG_take (i:=2) (v:=?_) rfl rfl (by kernel_rfl) (by kernel_rfl) (by kernel_rfl) (fun _ _ _ h=>h) (Or.inl ⟨by rfl,fun w=>?_⟩) (Or.inr hS) ?_;rotate_left;focus (go_simp;first|done|with_reducible rfl|exact rfl));(try simp only [Act.put,zA,zB,zC,zD,zE,zF]);(refine wpG_take (i:=3) (v:=?_) rfl rfl (by kernel_rfl) (by kernel_rfl) (by kernel_rfl) (fun _ _ _ h=>h) (Or.inl ⟨by rfl,fun w=>?_⟩) (Or.inr hS) ?_;rotate_left;focus (go_simp;first|done|with_reducible rfl|exact rfl));(try simp only [Act.put,zA,zB,zC,zD,zE,zF])
  (refine wpG_ld (i:=4) 18 (v:=?_) rfl rfl (by kernel_rfl) (by kernel_rfl) (by kernel_rfl) (by kernel_rfl) (fun _ _ _ h=>h) (Or.inl ⟨by rfl,?_⟩) hS ?_;rotate_left;focus (intro w hSw;(try dsimp only at hSw);go_simp;first|done|with_reducible rfl|exact rfl));(try simp only [Act.put,zA,zB,zC,zD,zE,zF])
  (refine wpG_take (i:=5) (v:=?_) rfl rfl (by kernel_rfl) (by kernel_rfl) (by kernel_rfl) (fun _ _ _ h=>h) (Or.inl ⟨by rfl,fun w=>?_⟩) (Or.inr hS) ?_;rotate_left;focus (go_simp;first|done|with_reducible rfl|exact rfl));(try simp only [Act.put,zA,zB,zC,zD,zE,zF]);(refine wpG_take (i:=6) (v:=?_) rfl rfl (by kernel_rfl) (by kernel_rfl) (by kernel_rfl) (fun _ _ _ h=>h) (Or.inl ⟨by rfl,fun w=>?_⟩) (Or.inr hS) ?_;rotate_left;focus (go_simp;first|done|with_reducible rfl|exact rfl));(try simp only [Act.put,zA,zB,zC,zD,zE,zF]);(refine wpG_take (i:=7) (v:=?_) rfl rfl (by kernel_rfl) (by kernel_rfl) (by kernel_rfl) (fun _ _ _ h=>h) (Or.inl ⟨by rfl,fun w=>?_⟩) (Or.inr hS) ?_;rotate_left;focus (go_simp;first|done|with_reducible rfl|exact rfl));(try simp only [Act.put,zA,zB,zC,zD,zE,zF])
  (refine wpG_ld (i:=8) 18 (v:=?_) rfl rfl (by kernel_rfl) (by kernel_rfl) (by kernel_rfl) (by kernel_rfl) (fun _ _ _ h=>h) (Or.inl ⟨by rfl,?_⟩) hS ?_;rotate_left;focus (intro w hSw;(try dsimp only at hSw);go_simp;first|done|with_reducible rfl|exact rfl));(try simp only [Act.put,zA,zB,zC,zD,zE,zF])
  (refine wpG_take (i:=9) (v:=?_) rfl rfl (by kernel_rfl) (by kernel_rfl) (by kernel_rfl) (fun _ _ _ h=>h) (Or.inl ⟨by rfl,fun w=>?_⟩) (Or.inr hS) ?_;rotate_left;focus (go_simp;first|done|with_reducible rfl|exact rfl));(try simp only [Act.put,zA,zB,zC,zD,zE,zF]);(refine wpG_take (i:=10) (v:=?_) rfl rfl (by kernel_rfl) (by kernel_rfl) (by kernel_rfl) (fun _ _ _ h=>h) (Or.inl ⟨by rfl,fun w=>?_⟩) (Or.inr hS) ?_;rotate_left;focus (go_simp;first|done|with_reducible rfl|exact rfl));(try simp only [Act.put,zA,zB,zC,zD,zE,zF]);(refine wpG_take (i:=11) (v:=?_) rfl rfl (by kernel_rfl) (by kernel_rfl) (by kernel_rfl) (fun _ _ _ h=>h) (Or.inl ⟨by rfl,fun w=>?_⟩) (Or.inr hS) ?_;rotate_left;focus (go_simp;first|done|with_reducible rfl|exact rfl));(try simp only [Act.put,zA,zB,zC,zD,zE,zF])
  (refine wpG_ld (i:=12) 13 (v:=?_) rfl rfl (by kernel_rfl) (by kernel_rfl) (by kernel_rfl) (by kernel_rfl) (fun _ _ _ h=>h) (Or.inl ⟨by rfl,?_⟩) hS ?_;rotate_left;focus (intro w hSw;(try dsimp only at hSw);go_simp;first|done|with_reducible rfl|exact rfl));(try simp only [Act.put,zA,zB,zC,zD,zE,zF])
  (refine wpG_take (i:=13) (v:=?_) rfl rfl (by kernel_rfl) (by kernel_rfl) (by kernel_rfl) (fun _ _ _ h=>h) (Or.inl ⟨by rfl,fun w=>?_⟩) (Or.inr hS) ?_;rotate_left;focus (go_simp;first|done|with_reducible rfl|exact rfl));(try simp only [Act.put,zA,zB,zC,zD,zE,zF]);(refine wpG_take (i:=14) (v:=?_) rfl rfl (by kernel_rfl) (by kernel_rfl) (by kernel_rfl) (fun _ _ _ h=>h) (Or.inl ⟨by rfl,fun w=>?_⟩) (Or.inr hS) ?_;rotate_left;focus (go_simp;first|done|with_reducible rfl|exact rfl));(try simp only [Act.put,zA,zB,zC,zD,zE,zF]);(refine wpG_take (i:=15) (v:=?_) rfl rfl (by kernel_rfl) (by kernel_rfl) (by kernel_rfl) (fun _ _ _ h=>h) (Or.inl ⟨by rfl,fun w=>?_⟩) (Or.inr hS) ?_;rotate_left;focus (go_simp;first|done|with_reducible rfl|exact rfl));(try simp only [Act.put,zA,zB,zC,zD,zE,zF]);(refine wpG_take (i:=16) (v:=?_) rfl rfl (by kernel_rfl) (by kernel_rfl) (by kernel_rfl) (fun _ _ _ h=>h) (Or.inl ⟨by rfl,fun w=>?_⟩) (Or.inr hS) ?_;rotate_left;focus (go_simp;first|done|with_reducible rfl|exact rfl));(try simp only [Act.put,zA,zB,zC,zD,zE,zF])
  (refine wpG_ld (i:=17) 18 (v:=?_) rfl rfl (by kernel_rfl) (by kernel_rfl) (by kernel_rfl) (by kernel_rfl) (fun _ _ _ h=>h) (Or.inl ⟨by rfl,?_⟩) hS ?_;rotate_left;focus (intro w hSw;(try dsimp only at hSw);go_simp;first|done|with_reducible rfl|exact rfl));(try simp only [Act.put,zA,zB,zC,zD,zE,zF])
  clear hS
  refine wpG_one (i:=18) (by kernel_rfl) rfl (fun K hK=>?_);have HK:=Lib.hid hK;clear hK
  go_simp
  refine (LW.out _ (dr_below _)).mono ?_
  rintro e w1 ⟨ng,v1,n,rfl,hW,hv,hb⟩
  have HW:=Lib.hid hW
  have HV:=Lib.hid hv
  have HB:=Lib.hid ((dr_below w).trans hb)
  refine HK.out _ _ (Or.inl (by kernel_rfl)) ?_
  clear hW hb HK K hv
  (try simp only [Act.put,zA,zB,zC,zD,zE,zF])
  (refine wpG_take (i:=19) (v:=?_) rfl rfl (by kernel_rfl) (by kernel_rfl) (by kernel_rfl) (fun _ _ _ h=>h) (Or.inl ⟨by rfl,fun w=>?_⟩) (Or.inl (by kernel_rfl)) ?_;rotate_left;focus (go_simp;first|done|with_reducible rfl|exact rfl));(try simp only [Act.put,zA,zB,zC,zD,zE,zF]);(refine wpG_take (i:=20) (v:=?_) rfl rfl (by kernel_rfl) (by kernel_rfl) (by kernel_rfl) (fun _ _ _ h=>h) (Or.inl ⟨by rfl,fun w=>?_⟩) (Or.inl (by kernel_rfl)) ?_;rotate_left;focus (go_simp;first|done|with_reducible rfl|exact rfl));(try simp only [Act.put,zA,zB,zC,zD,zE,zF])
  refine wpG_one (i:=21) (by kernel_rfl) rfl (fun K hK=>?_);have HK:=Lib.hid hK;clear hK
  go_simp
  refine (give_c (HZ0.out.blk.below HB.out) HZ0.out.wd.sl HW.out ng).mono ?_
  rintro e w2 ⟨rfl,hI,hz⟩
  have HI:=Lib.hid hI
  have HZ:=Lib.hid hz
  refine HK.out _ _ (Or.inl (by kernel_rfl)) ?_
  clear hI hz HK K
  (try simp only [Act.put,zA,zB,zC,zD,zE,zF])
  refine wpG_one (i:=22) (by kernel_rfl) rfl (fun K hK=>?_);have HK:=Lib.hid hK;clear hK;go_simp;refine HK.out _ _ (Or.inl (by kernel_rfl)) ?_;clear HK K;(try simp only [Act.put,zA,zB,zC,zD,zE,zF])
  refine wpG_done (by kernel_rfl) ?_ _
  go_wp2
  go_ret
  exact ⟨rfl,by rw [← E2.out,← HV.out];exact HI.out,(Bz.of HB.out).trans HZ.out⟩
def sgnI (v:Int):Int:=if v < 0 then -1 else if 0 < v then 1 else 0
theorem isign_c {w:World} {x:Nat} {v:Int} (hx:IntAt w x v):Calls Tryd.prog 44 #[pt x] w fun e w'=>e=.returned (.int .i64 (sgnI v))∧w=w':=by
  obtain ⟨xg,xs,b,hx⟩:=hx.rd
  have c0:=hx.blk.c0
  have c1:=hx.blk.c1
  obtain ⟨A,c,l,rfl,hl,⟨hC,hT⟩,hN,hn⟩:=hx.wd
  have h0:=hN.zero
  rw [hn] at h0
  have hnn:0≤b:=by rw [← hn];exact nv_nonneg hN.1
  have hv:=hx.val
  have hz:=hx.nz
  have H0:=Lib.hid h0
  have HV:=Lib.hid hv
  have HZ:=Lib.hid hz
  have HN:=Lib.hid hnn
  clear hx hC hN hn h0 hv hz hnn
  by_cases hl0:0 < l.length
  · have k1:((l.length:Int) == 0)=false:=by rw [beq_eq_false_iff_ne];omega
    have k2:(l.length == 0)=false:=by rw [beq_eq_false_iff_ne];omega
    have hb:b ≠ 0:=fun h=>by rw [H0.out.1 h] at hl0;simp at hl0
    have HB:=Lib.hid hb
    clear hb
    cases xg
    all_goals
      go_enter Tryd.func44,Tryd.ntmps44
      go_wp2
      go_ret
      refine ⟨ret_int ?_,rfl⟩
      have h1:=HV.out
      have h2:=HN.out
      have h3:=HB.out
      unfold sg at h1
      unfold sgnI
      simp at h1
      subst h1
      split <;> (try split) <;> omega
  · have e:l=[]:=List.eq_nil_of_length_eq_zero (by omega)
    have hb:=H0.out.2 e
    have HB:=Lib.hid hb
    subst e
    clear hb hl0
    go_enter Tryd.func44,Tryd.ntmps44
    go_wp2
    go_ret
    refine ⟨ret_int ?_,rfl⟩
    rw [HV.out,HB.out]
    unfold sg sgnI
    cases xg <;> simp
end Go.Proofs.YtalhpbilkhdfhaaDoor
namespace Go.Proofs.YtalhpbilkhdfhaaDoor
open Go Go.RowKit Nv
open Go.Proofs.YtalhpbilkhdfhaaDoorW.PrintWords (Kd Drawn0)
open XBn
set_option maxRecDepth 100000
set_option linter.unusedSimpArgs false
theorem right_w {w:World} {v:Value} {a:Int} (h:Wd w v a) (hs:Sm a) (n:Nat) (hn:n≤10000000):Calls Tryd.prog 74 #[v,.int .u64 n] w (WPost ((a.toNat / 2 ^ n:Nat):Int) w):=by
  obtain ⟨A,c,l,rfl,hl,⟨hC,hT⟩,hN,rfl⟩:=h
  have hlen:=len_of hN hs
  obtain ⟨r,h1,h2,h3,h4⟩:=right_f l hN.1 n (by omega) (by omega) (2 * l.length + 8) (Nat.le_refl _)
  refine (bignum_right.calls _ A c l n r w hC hl h1).mono ?_
  rintro e w' ⟨v,rfl,hR,hb⟩
  exact ⟨v,rfl,wd_of hR h3 h2,hb⟩
theorem length_w {w:World} {v:Value} {a:Int} (h:Wd w v a) (hs:Sm a):Calls Tryd.prog 89 #[v] w fun e w'=>e=.returned (.int .i64 (bl a.toNat))∧Below w.heap.size w w':=by
  obtain ⟨A,c,l,rfl,hl,⟨hC,hT⟩,hN,rfl⟩:=h
  have hlen:=len_of hN hs
  refine (bignum_length.calls 40 A c l _ w hC hl (length_f l hN (by omega) 40 (Nat.le_refl _))).mono ?_
  rintro e w' ⟨rfl,hd⟩
  exact ⟨rfl,hd.below⟩
theorem bit_w {w:World} {v:Value} {a:Int} (h:Wd w v a) (hs:Sm a) (i:Nat) (hi:i≤9223372036854775807):Calls Tryd.prog 88 #[v,.int .i64 i] w fun e w'=>e=.returned (.int .u64 ((a.toNat / 2 ^ i % 2:Nat):Int))∧Below w.heap.size w w':=by
  obtain ⟨A,c,l,rfl,hl,⟨hC,hT⟩,hN,rfl⟩:=h
  have hlen:=len_of hN hs
  refine (bignum_bit.calls A c l _ _ w hC hl (bit_f l hN.1 (by omega) i hi)).mono ?_
  rintro e w' ⟨rfl,hd⟩
  exact ⟨rfl,hd.below⟩
set_option maxHeartbeats 1600000 in
theorem iabs_c {w:World} {z x:Nat} {u v:Int} (hz:IntAt w z u) (hx:IntAt w x v) (hs:Sm v.natAbs):Calls Tryd.prog 49 #[pt z,pt x] w (GPost z (v.natAbs:Int) w):=by
  obtain ⟨zg,zs,a,hz⟩:=hz.rd
  obtain ⟨xg,xs,b,hx⟩:=hx.rd
  have hb:=hx.sm hs
  have e2:sg false b=(v.natAbs:Int):=hx.abs.symm
  have c0:=hx.blk.c0
  have c1:=hx.blk.c1
  have HX:=Lib.hid hx
  have HZ0:=Lib.hid hz
  have E2:=Lib.hid e2
  have lw:∀ w',Below w.heap.size w w'→Calls Tryd.prog 71 #[xs] w' (WPost b w'):=fun w' h=>twin_w (hx.wd.below h) hb
  have LW:=Lib.hid lw
  clear hz hx e2 hs hb lw
  go_enter Tryd.func49,Tryd.ntmps49
  go_wp2_with (first
    | (go_at_call 71;refine (LW.out _ (Below.refl _ _)).mono ?_;rintro e w1 ⟨v1,rfl,hW,hb⟩;have HW:=Lib.hid hW;have HB:=Lib.hid hb;clear hW hb)
    | (go_at_call 68;refine (give_c (HZ0.out.blk.below HB.out) HZ0.out.wd.sl HW.out false).mono ?_;rintro e w2 ⟨rfl,hI,hz⟩;have HI:=Lib.hid hI;have HZ:=Lib.hid hz;clear hI hz))
  go_ret
  exact ⟨rfl,by rw [← E2.out];exact HI.out,(Bz.of HB.out).trans HZ.out⟩
set_option maxHeartbeats 1600000 in
theorem rsh_c {w:World} {z x:Nat} {u v:Int} (hz:IntAt w z u) (hx:IntAt w x v) (hs:Sm v.natAbs) (h0:0≤v) (n:Nat) (hn:n≤10000000):Calls Tryd.prog 52 #[pt z,pt x,.int .u64 n] w (GPost z ((v.toNat / 2 ^ n:Nat):Int) w):=by
  obtain ⟨zg,zs,a,hz⟩:=hz.rd
  obtain ⟨xg,xs,b,hx⟩:=hx.rd
  have hb:=hx.sm hs
  have hg:xg=false:=by
    cases xg
    · rfl
    · exfalso
      have h1:=hx.val
      have h2:=hx.nz rfl
      have h3:=hx.wd.nonneg
      unfold sg at h1
      simp only [if_true] at h1
      omega
  subst hg
  have ev:v=b:=hx.val
  subst ev
  have c0:=hx.blk.c0
  have c1:=hx.blk.c1
  have HX:=Lib.hid hx
  have HZ0:=Lib.hid hz
  have lw:∀ w',Below w.heap.size w w'→Calls Tryd.prog 74 #[xs,.int .u64 n] w' (WPost ((v.toNat / 2 ^ n:Nat):Int) w'):=fun w' h=>right_w (hx.wd.below h) hb n hn
  have LW:=Lib.hid lw
  obtain ⟨r,hr⟩:∃ r:Int,((v.toNat / 2 ^ n:Nat):Int)=r:=⟨_,rfl⟩
  rw [hr] at LW ⊢
  clear hz hx hs hb lw hr h0 hn
  go_enter Tryd.func52,Tryd.ntmps52
  go_wp2_with (first
    | (go_at_call 74;refine (LW.out _ (Below.refl _ _)).mono ?_;rintro e w1 ⟨v1,rfl,hW,hb⟩;have HW:=Lib.hid hW;have HB:=Lib.hid hb;clear hW hb)
    | (go_at_call 68;refine (give_c (HZ0.out.blk.below HB.out) HZ0.out.wd.sl HW.out false).mono ?_;rintro e w2 ⟨rfl,hI,hz⟩;have HI:=Lib.hid hI;have HZ:=Lib.hid hz;clear hI hz))
  go_ret
  exact ⟨rfl,HI.out,(Bz.of HB.out).trans HZ.out⟩
theorem bitlen_c {w:World} {x:Nat} {v:Int} (hx:IntAt w x v) (hs:Sm v.natAbs):Calls Tryd.prog 66 #[pt x] w fun e w'=>e=.returned (.int .i64 (bl v.natAbs))∧Below w.heap.size w w':=by
  obtain ⟨xg,xs,b,hx⟩:=hx.rd
  have hb:=hx.sm hs
  have c1:=hx.blk.c1
  have e:v.natAbs=b.toNat:=by have:=hx.abs;omega
  have LW:=Lib.hid (length_w hx.wd hb)
  rw [e]
  obtain ⟨r,hr⟩:∃ r:Int,(bl b.toNat:Int)=r:=⟨_,rfl⟩
  rw [hr] at LW ⊢
  clear hx hs hb e hr
  go_enter Tryd.func66,Tryd.ntmps66
  go_wp2_with (go_at_call 89;(with_reducible refine (LW.out).mono ?_);rintro e w1 ⟨rfl,hb⟩;have HB:=Lib.hid hb;clear hb)
  go_ret
  exact ⟨rfl,HB.out⟩
def tz (m n:Nat):Prop:=m=2 ^ n * (m / 2 ^ n)∧(m / 2 ^ n) % 2=1
theorem tz_zero_bits {m:Nat} (n:Nat) (h:∀ i,i < n→m / 2 ^ i % 2=0):m=2 ^ n * (m / 2 ^ n):=by
  induction n with
  | zero=>rw [Nat.pow_zero,Nat.one_mul,Nat.div_one]
  | succ n ih =>
    have h1:=ih (fun i hi=>h i (by omega))
    have h2:=h n (by omega)
    have h3:m / 2 ^ (n + 1)=m / 2 ^ n / 2:=by rw [Nat.pow_succ,Nat.div_div_eq_div_mul]
    obtain ⟨q,hq⟩:∃ q,m / 2 ^ n=2 * q:=⟨m / 2 ^ n / 2,by omega⟩
    rw [h3,Nat.pow_succ,hq,Nat.mul_div_cancel_left q (by decide),Nat.mul_assoc,← hq]
    exact h1
set_option maxHeartbeats 1600000 in
theorem tzb_c {w:World} {x:Nat} {v:Int} (hx:IntAt w x v) (hs:Sm v.natAbs) (h0:v ≠ 0) (hl:bl v.natAbs≤1000000000):Calls Tryd.prog 65 #[pt x] w fun e w'=>∃ n:Nat,e=.returned (.int .u64 n)∧tz v.natAbs n∧n < bl v.natAbs∧Below w.heap.size w w':=by
  obtain ⟨xg,xs,b,hx⟩:=hx.rd
  have hb:=hx.sm hs
  have e:v.natAbs=b.toNat:=by have:=hx.abs;omega
  have bw:∀ w',Below w.heap.size w w'→∀ i:Nat,i≤9223372036854775807→Calls Tryd.prog 88 #[xs,.int .i64 i] w' fun e w2=>e=.returned (.int .u64 ((v.natAbs / 2 ^ i % 2:Nat):Int))∧Below w'.heap.size w' w2:=fun w' h i hi=>by rw [e];exact bit_w (hx.wd.below h) hb i hi
  have BW:=Lib.hid bw
  have KB:=Lib.hid hx.blk
  obtain ⟨A,c,l,rfl,hl2,⟨hC,hT⟩,hN,hn⟩:=hx.wd
  have hlen:0 < l.length:=by
    rcases Nat.eq_zero_or_pos l.length with h|h
    · exfalso
      have h1:=List.eq_nil_of_length_eq_zero h
      subst h1
      rw [nv_nil] at hn
      omega
    · exact h
  have k1:(l.length == 0)=false:=by rw [beq_eq_false_iff_ne];omega
  have k2:((l.length:Int) == 0)=false:=by rw [beq_eq_false_iff_ne];omega
  obtain ⟨m,hm⟩:∃ m,v.natAbs=m:=⟨_,rfl⟩
  have hm0:m ≠ 0:=by omega
  rw [hm] at BW hl ⊢
  have c1:=KB.out.c1
  have HM:=Lib.hid hm0
  clear hx hs hb e bw hC hN hn h0 hm hl2
  go_enter Tryd.func65,Tryd.ntmps65
  go_wp2
  go_loopw [3] (fun v3 wr=>∃ n:Nat,v3=.int .u64 n∧n < bl m∧Hid (Below w.heap.size w wr∧∀ i,i < n→m / 2 ^ i % 2=0)) (fun v3 _=>bl m - (intOf v3).toNat)
  case atStart=>exact ⟨0,rfl,by rw [bl_pos HM.out];omega,Lib.hid ⟨Below.refl _ _,fun i hi=>absurd hi (by omega)⟩⟩
  case round =>
    obtain ⟨n,rfl,hn,hq⟩:=hrel
    have c1:=(KB.out.below hq.out.1).c1
    have e1:IntKind.i64.wrap (n:Int)=(n:Int):=by rw [IntKind.wrap_i64];omega
    have e2:IntKind.u64.wrap ((n:Int) + 1)=((n + 1:Nat):Int):=by rw [IntKind.wrap_u64];omega
    have BC:=Lib.hid (BW.out wr hq.out.1 n (by omega))
    have HQ:=Lib.hid hq.out
    clear hq
    rcases Nat.mod_two_eq_zero_or_one (m / 2 ^ n) with h|h
    · rw [h] at BC
      have next:n + 1 < bl m:=by
        rcases Nat.lt_or_ge (n + 1) (bl m) with h1|h1
        · exact h1
        · exfalso
          have e3:bl m=n + 1:=by omega
          have h2:=bl_le HM.out
          have h3:=bl_lt m
          rw [e3,Nat.add_sub_cancel] at h2
          rw [e3,Nat.pow_succ] at h3
          have h4:m / 2 ^ n=1:=by
            refine (Nat.div_eq_iff (Nat.two_pow_pos n)).2 ⟨by omega,by omega⟩
          rw [h4] at h;cases h
      have ZZ:=Lib.hid h
      clear h
      go_wp2_with (go_at_call 88;(with_reducible refine (BC.out).mono ?_);rintro e w1 ⟨rfl,hb⟩;have HB:=Lib.hid hb;clear hb)
      go_roundw
      case rel=>exact ⟨n + 1,by go_num,next,Lib.hid ⟨bl_then HQ.out.1 HB.out,fun i hi=>by
        rcases Nat.lt_or_ge i n with h1|h1
        · exact HQ.out.2 i h1
        · obtain rfl:i=n:=by omega
          exact ZZ.out⟩⟩
      case measure=>simp [intOf];omega
    · rw [h] at BC
      have T:=Lib.hid (show tz m n from ⟨tz_zero_bits n HQ.out.2,h⟩)
      clear h
      go_wp2_with (go_at_call 88;(with_reducible refine (BC.out).mono ?_);rintro e w1 ⟨rfl,hb⟩;have HB:=Lib.hid hb;clear hb)
      go_ret
      exact ⟨n,rfl,T.out,hn,bl_then HQ.out.1 HB.out⟩
def cmpZ (a b:Int):Int:=if a < b then -1 else if b < a then 1 else 0
theorem cmp_q {w:World} {u v:Value} {a b:Int} (h:Wd w u a) (k:Wd w v b) (hs:Sm a):Calls Tryd.prog 76 #[u,v] w fun e w'=>e=.returned (.int .i64 (cmpZ a b))∧∃ n,w'=w.drewN n:=by
  obtain ⟨A,c,l,rfl,hl,⟨hC,hT⟩,hN,rfl⟩:=h
  obtain ⟨B,d,m,rfl,km,⟨kC,kT⟩,kN,rfl⟩:=k
  have hlen:=len_of hN hs
  refine (bignum_cmp.calls _ A c l B d m _ w hC hl kC km (cmp_f l m hN kN (by omega) _ (Nat.lt_succ_self _))).mono ?_
  rintro e w' ⟨rfl,hd⟩
  exact ⟨rfl,hd.out⟩
set_option maxHeartbeats 1600000 in
theorem icmp_c {w:World} {x y:Nat} {v t:Int} (hx:IntAt w x v) (hy:IntAt w y t) (hs:Sm v.natAbs):Calls Tryd.prog 54 #[pt x,pt y] w fun e w'=>e=.returned (.int .i64 (cmpZ v t))∧Below w.heap.size w w':=by
  obtain ⟨xg,xs,a,hx⟩:=hx.rd
  obtain ⟨yg,ys,b,hy⟩:=hy.rd
  have ha:=hx.sm hs
  have n1:=hx.wd.nonneg
  have n2:=hy.wd.nonneg
  have z1:=hx.nz
  have z2:=hy.nz
  have v1:=hx.val
  have v2:=hy.val
  have c0:=hx.blk.c0
  have c1:=hx.blk.c1
  have d0:=hy.blk.c0
  have d1:=hy.blk.c1
  have KX:=Lib.hid hx.blk
  have CW:Hid (∀ w',Below w.heap.size w w'→Calls Tryd.prog 76 #[xs,ys] w' fun e w2=>e=.returned (.int .i64 (cmpZ a b))∧∃ n,w2=w'.drewN n):=Lib.hid (fun w' h=>cmp_q (hx.wd.below h) (hy.wd.below h) ha)
  have RES:Hid (cmpZ v t=if xg=yg then (if xg=true then -cmpZ a b else cmpZ a b) else (if xg=true then -1 else 1)):=Lib.hid (by
    unfold sg at v1 v2
    unfold cmpZ
    cases xg <;> cases yg <;> simp at v1 v2 z1 z2 ⊢ <;> (repeat' split) <;> omega)
  obtain ⟨C,hC⟩:∃ C,cmpZ a b=C:=⟨_,rfl⟩
  have cr:-1≤C∧C≤1:=by rw [← hC];unfold cmpZ;(repeat' split) <;> omega
  rw [hC] at CW RES
  have wn:wrap64 (-C)=-C:=by unfold wrap64;omega
  clear hx hy hs ha n1 n2 z1 z2 v1 v2 hC cr
  cases xg <;> cases yg
  · go_enter Tryd.func54,Tryd.ntmps54
    go_wp2
    go_quiet (fail)
    go_wp2
    have BW:=Lib.hid (bl_drewN (Below.refl w.heap.size w) nq)
    have c1':(w.drewN nq).cell? ⟨x,1,none⟩=some xs:=c1
    have d1':(w.drewN nq).cell? ⟨y,1,none⟩=some ys:=d1
    have cc0:(w.drewN nq).cell? ⟨x,0,none⟩=some (.bool _):=c0
    obtain ⟨w1,hw1⟩:∃ w1,w.drewN nq=w1:=⟨_,rfl⟩
    rw [hw1] at c1' d1' cc0 BW
    simp only [hw1]
    clear hw1 c0 c1 d0 d1
    go_quiet ((go_at_call 76;exact Calls.quiet_of (CW.out _ (bl_drewN BW.out _))))
    go_wp2
    go_ret
    exact ⟨by rw [RES.out];simp [wn,IntKind.wrap],bl_drewN BW.out _⟩
  · go_enter Tryd.func54,Tryd.ntmps54
    go_wp2
    go_quiet (fail)
    go_wp2
    go_ret
    exact ⟨by rw [RES.out];simp,by repeat' (first|(with_reducible exact Below.refl _ _)|(with_reducible refine bl_alloc ?_ _)|(with_reducible refine bl_drewN ?_ _)|(with_reducible refine bl_drew ?_)|(with_reducible refine bl_set ?_ _ (by simp)))⟩
  · go_enter Tryd.func54,Tryd.ntmps54
    go_wp2
    go_quiet (fail)
    go_wp2
    go_ret
    exact ⟨by rw [RES.out];simp,by repeat' (first|(with_reducible exact Below.refl _ _)|(with_reducible refine bl_alloc ?_ _)|(with_reducible refine bl_drewN ?_ _)|(with_reducible refine bl_drew ?_)|(with_reducible refine bl_set ?_ _ (by simp)))⟩
  · go_enter Tryd.func54,Tryd.ntmps54
    go_wp2
    go_quiet (fail)
    go_wp2
    have BW:=Lib.hid (bl_drewN (Below.refl w.heap.size w) nq)
    have c1':(w.drewN nq).cell? ⟨x,1,none⟩=some xs:=c1
    have d1':(w.drewN nq).cell? ⟨y,1,none⟩=some ys:=d1
    have cc0:(w.drewN nq).cell? ⟨x,0,none⟩=some (.bool _):=c0
    obtain ⟨w1,hw1⟩:∃ w1,w.drewN nq=w1:=⟨_,rfl⟩
    rw [hw1] at c1' d1' cc0 BW
    simp only [hw1]
    clear hw1 c0 c1 d0 d1
    go_quiet ((go_at_call 76;exact Calls.quiet_of (CW.out _ (bl_drewN BW.out _))))
    go_wp2
    go_ret
    exact ⟨by rw [RES.out];simp [wn,IntKind.wrap],bl_drewN BW.out _⟩
end Go.Proofs.YtalhpbilkhdfhaaDoor
namespace Go.Proofs.YtalhpbilkhdfhaaDoor
open Go
section
variable {P:Program} {ops:Array Oper} {Q:Exit→Act→World→Prop} {md:Region.Mode} {S:World→Prop} {g:Nat}
def chainW (md:Region.Mode) (ops:Array Oper):Nat→List Nat→Bool
  | _,[]=>true
  | i,c :: r=>Waits md ops c i && chainW md ops c r
theorem chainW.not_ready {listed:Array Bool}:∀ (cs:List Nat) (i:Nat),chainW md ops i cs=true→listed.getD i true=false→(∀ c ∈ cs,listed.getD c true=false)→∀ c ∈ cs,c ∉ Region.ready md ops listed
  | [],_,_,_,_,_,h=>by cases h
  | c :: r,i,hw,hi,hc,d,hd=>by
    unfold chainW at hw
    simp only [Bool.and_eq_true] at hw
    rcases List.mem_cons.1 hd with rfl|hd
    · exact Waits.not_ready hw.1 hi
    · exact chainW.not_ready r c hw.2 (hc c (by simp)) (fun x hx=>hc x (by simp [hx])) d hd
theorem wpG_loadC {i:Nat} (cs:List Nat) {oi:Oper} {v:Value} (hgi:i ≠ g) (hcs:chainW md ops i cs=true) (hgc:g ∈ cs) (hi:ops[i]?=some oi) (hsel:∀ (j:Nat) (o:Oper) cs b,ops[j]?=some o→o.op ≠ .select cs b)
    (hQ:∀ c a w,Q (.panic c) (a.put oi.dst v) w→Q (.panic c) a w) :
    ∀ (fuel:Nat) (listed:Array Bool) (a:Act) (w:World),
      (∀ j oj,ops[j]?=some oj→j ≠ i→listed.getD j true=false→(∀ e ∈ oj.after,Region.binds md e=true→e.on ≠ i)→oi.apart ops oj=true) →
      i ∈ Region.ready md ops listed→(∀ c ∈ cs,listed.getD c true=false)→YieldsIf P ops S oi v a→S w →
      wpG P md ops Q S g fuel (listed.setIfInBounds i true) (a.put oi.dst v) w→wpG P md ops Q S g (fuel + 1) listed a w:=by
  intro fuel
  induction fuel with
  | zero =>
    intro listed a w _ hr hc hy hS H
    refine ⟨fun h=>(by rw [h] at hr;cases hr),fun j hj=>?_⟩
    by_cases hji:j=i
    · subst hji;exact hy.wpOp hi hS ⟨.inr hS,H⟩
    · have:=ready_mono hj hji
      rw [H.1] at this
      cases this
  | succ fuel ih =>
    intro listed a w hfree hr hc hy hS H
    refine ⟨fun h=>(by rw [h] at hr;cases hr),fun j hj=>?_⟩
    by_cases hji:j=i
    · subst hji;exact hy.wpOp hi hS ⟨.inr hS,H⟩
    · have h1:=H.2 j (ready_mono hj hji)
      have hun:=(mem_ready.1 hr).1
      have hjc:∀ c ∈ cs,j ≠ c:=fun c hc' h=>chainW.not_ready cs i hcs hun hc c hc' (h ▸ hj)
      have hjg:j ≠ g:=hjc g hgc
      obtain ⟨hjun,oj,hoj,hall⟩:=mem_ready.1 hj
      have hnot:∀ e ∈ oj.after,Region.binds md e=true→e.on ≠ i:=fun e he hb heq=>by
        have h1:=hall e he hb
        rw [heq] at h1
        rcases Nat.lt_or_ge i listed.size with h'|h'
        · simp [h'] at hun h1;rw [hun] at h1;cases h1
        · simp [Array.getElem?_eq_none h'] at h1
      have h2:=wpOp_putIf hoj (hfree j oj hoj hji hjun hnot) (fun cs b=>hsel i oi cs b hi) (fun cs b=>hsel j oj cs b hoj) hQ hy h1
      have hfree':∀ k ok,ops[k]?=some ok→k ≠ i→(listed.setIfInBounds j true).getD k true=false →
          (∀ e ∈ ok.after,Region.binds md e=true→e.on ≠ i)→oi.apart ops ok=true:=fun k ok hk hki hun hno=>by
        refine hfree k ok hk hki ?_ hno
        by_cases hjk:j=k
        · subst hjk;exact hjun
        · rw [getD_set_ne true hjk] at hun;exact hun
      refine wpOp_mono (fun a' w' h3=>?_) h2
      have e:(listed.setIfInBounds j true).setIfInBounds i true=(listed.setIfInBounds i true).setIfInBounds j true:=Array.setIfInBounds_comm _ _ hji
      have hS2:S w':=by
        rcases h3.2.1 with h4|h4
        · rw [← e,getD_set_ne true hgi,getD_set_ne true hjg,hc g hgc] at h4;cases h4
        · exact h4
      exact ⟨.inr hS2,ih (listed.setIfInBounds j true) a' w' hfree' (ready_mono hr (Ne.symm hji)) (fun c hc'=>by rw [getD_set_ne true (hjc c hc')];exact hc c hc') h3.1 hS2 (by rw [e];exact h3.2.2)⟩
theorem wpG_ldC {i:Nat} (cs:List Nat) {oi:Oper} {v:Value} {fuel:Nat} {listed:Array Bool} {a:Act} {w:World} (hi:ops[i]?=some oi) (hgi:(i != g)=true)
    (hs:Region.noSelect ops=true) (hf:Region.free md ops listed i=true) (hr:(Region.ready md ops listed).contains i=true)
    (hw:(chainW md ops i cs && cs.contains g && cs.all (fun c=>!(listed.getD c true)))=true)
    (hQ:∀ c a w,Q (.panic c) (a.put oi.dst v) w→Q (.panic c) a w) (hy:YieldsIf P ops S oi v a) (hS:S w)
    (h:wpG P md ops Q S g fuel (listed.setIfInBounds i true) (a.put oi.dst v) w):wpG P md ops Q S g (fuel + 1) listed a w:=by
  simp only [Bool.and_eq_true,List.all_eq_true,Bool.not_eq_true'] at hw
  exact wpG_loadC cs (by simpa using hgi) hw.1.1 (by simpa using hw.1.2) hi (Region.noSelect_spec hs) hQ fuel listed a w (Region.free_spec hi hf) (by simpa using hr) (fun c hc=>hw.2 c hc) hy hS h
end
end Go.Proofs.YtalhpbilkhdfhaaDoor
namespace Go.Proofs.YtalhpbilkhdfhaaDoor
open Go
section
variable {P:Program} {ops:Array Oper} {Q:Exit→Act→World→Prop} {md:Region.Mode} {S:World→Prop} {g:Nat}
def On (l:Array Bool) (i:Nat):Prop:=l.getD i true=true
theorem On.set {l:Array Bool} {i j:Nat} (h:On l j):On (l.setIfInBounds i true) j:=by
  unfold On at *
  by_cases e:i=j
  · subst e
    rw [Array.getD_eq_getD_getElem?,Array.getElem?_setIfInBounds]
    simp only [if_true]
    split <;> rfl
  · rw [getD_set_ne true e];exact h
def orderly (md:Region.Mode) (ops:Array Oper):Bool:=(List.range ops.size).all fun i=>match ops[i]? with
  | some o=>o.after.all fun e=>!(Region.binds md e) || decide (e.on < i)
  | none=>true
theorem On.all {l:Array Bool} (ho:orderly md ops=true) (hs:l.size=ops.size) (hr:Region.ready md ops l=[]):∀ i,On l i:=by
  intro i
  induction i using Nat.strongRecOn with
  | ind i ih =>
    unfold On
    cases hi:l.getD i true with
    | true=>rfl
    | false =>
      exfalso
      have hlt:i < l.size:=by
        rcases Nat.lt_or_ge i l.size with h|h
        · exact h
        · simp [Array.getElem?_eq_none h] at hi
      have hm:i ∈ Region.ready md ops l:=by
        refine mem_ready.2 ⟨hi,ops[i]'(by omega),by simp,fun e he hb=>?_⟩
        have h1:=List.all_eq_true.1 ho i (List.mem_range.2 (by omega))
        rw [show ops[i]?=some (ops[i]'(by omega)) by simp] at h1
        have h2:e.on < i:=by
          simp only [Array.all_eq_true_iff_forall_mem,Bool.or_eq_true,Bool.not_eq_true',decide_eq_true_eq] at h1
          rcases h1 e he with h3|h3
          · rw [hb] at h3;cases h3
          · exact h3
        have h3:=ih e.on h2
        unfold On at h3
        have h4:e.on < l.size:=by omega
        simpa [h4] using h3
      rw [hr] at hm
      cases hm
section
variable {ξ:Type} {A:ξ→Act} {J:Array Bool→ξ→World→Prop}
def StepAt (P:Program) (md:Region.Mode) (ops:Array Oper) (Q:Exit→Act→World→Prop) (A:ξ→Act) (J:Array Bool→ξ→World→Prop) (i:Nat):Prop :=
  ∀ (l:Array Bool) (x:ξ) (w:World) (K:Act→World→Prop),l.getD i true=false→(∀ j,Waits md ops i j=true→On l j)→J l x w→(∀ x' w',J (l.setIfInBounds i true) x' w'→K (A x') w') →
    ∃ o,ops[i]?=some o∧if Region.wanted o (yielded ops (A x).tmps)=true then Oper.wp P o (A x) w K Q else K ((A x).put o.dst undef) w
def Steps (P:Program) (md:Region.Mode) (ops:Array Oper) (Q:Exit→Act→World→Prop) (A:ξ→Act) (J:Array Bool→ξ→World→Prop):List Nat→Prop
  | []=>True
  | i :: r=>StepAt P md ops Q A J i∧Steps P md ops Q A J r
theorem Steps.at {i:Nat}:∀ (I:List Nat),Steps P md ops Q A J I→i ∈ I→StepAt P md ops Q A J i
  | [],_,h=>by cases h
  | _ :: r,hs,h=>by
    rcases List.mem_cons.1 h with rfl|h
    · exact hs.1
    · exact Steps.at r hs.2 h
end
end
end Go.Proofs.YtalhpbilkhdfhaaDoor
