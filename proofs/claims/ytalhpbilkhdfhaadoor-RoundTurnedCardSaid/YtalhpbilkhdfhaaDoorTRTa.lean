import Derived.RowKit
namespace Go.Proofs.YtalhpbilkhdfhaaDoor
theorem zA {α : Type _} (l : List α) (i : Nat) (a : α) : l.toArray.setIfInBounds i a = (l.set i a).toArray := List.setIfInBounds_toArray l i a
theorem zB {α : Type _} {x : α} {xs : List α} {a : α} : (x :: xs).set 0 a = a :: xs := List.set_cons_zero
theorem zC {α : Type _} {x : α} {xs : List α} {i : Nat} {a : α} : (x :: xs).set (i + 1) a = x :: xs.set i a := List.set_cons_succ
theorem zD {α : Type _} {xs : List α} {i : Nat} (h : i < xs.toArray.size) : xs.toArray[i] = xs[i]'(by simpa using h) := List.getElem_toArray h
theorem zE {α : Type _} (a : α) (as : List α) (h : 0 < (a :: as).length) : (a :: as)[0] = a := List.getElem_cons_zero a as h
theorem zF {α : Type _} (a : α) (as : List α) (i : Nat) (h : i + 1 < (a :: as).length) : (a :: as)[i + 1] = as[i]'(Nat.lt_of_succ_lt_succ h) := List.getElem_cons_succ a as i h
end Go.Proofs.YtalhpbilkhdfhaaDoor
namespace Nv
def Dg (l:List Int):Prop:=∀ d ∈ l,0≤d∧d < 4294967296
def nv:List Int→Int
  | []=>0
  | d :: l=>d + 4294967296 * nv l
def bs (n:Nat):Int:=4294967296 ^ n
theorem bs_zero:bs 0=1:=rfl
theorem bs_succ (n:Nat):bs (n + 1)=4294967296 * bs n:=by unfold bs;rw [Int.pow_succ,Int.mul_comm]
theorem bs_add (a b:Nat):bs (a + b)=bs a * bs b:=Int.pow_add ..
theorem bs_pos (n:Nat):0 < bs n:=Int.pow_pos (by decide)
theorem Dg.nil:Dg []:=fun _ h=>by cases h
theorem Dg.cons {d:Int} {l:List Int}:Dg (d :: l) ↔ (0≤d∧d < 4294967296)∧Dg l:=by simp [Dg]
theorem Dg.app {a b:List Int}:Dg (a ++ b) ↔ Dg a∧Dg b:=by
  unfold Dg
  simp only [List.mem_append]
  exact ⟨fun h=>⟨fun d hd=>h d (.inl hd),fun d hd=>h d (.inr hd)⟩,fun h d hd=>hd.elim (h.1 d) (h.2 d)⟩
theorem Dg.take {l:List Int} (h:Dg l) (n:Nat):Dg (l.take n):=fun d hd=>h d (List.mem_of_mem_take hd)
theorem Dg.set {l:List Int} (h:Dg l) {i:Nat} {d:Int} (h0:0≤d) (h1:d < 4294967296):Dg (l.set i d):=fun x hx=>by
  rcases List.mem_or_eq_of_mem_set hx with hx|rfl
  · exact h x hx
  · exact ⟨h0,h1⟩
theorem Dg.at {l:List Int} (h:Dg l) {i:Nat} (hi:i < l.length):0≤l[i]∧l[i] < 4294967296:=h _ (List.getElem_mem hi)
theorem Dg.zeros (n:Nat):Dg (List.replicate n 0):=fun d hd=>by rw [List.eq_of_mem_replicate hd];exact ⟨by decide,by decide⟩
theorem nv_nil:nv []=0:=rfl
theorem nv_cons (d:Int) (l:List Int):nv (d :: l)=d + 4294967296 * nv l:=rfl
theorem nv_app (a b:List Int):nv (a ++ b)=nv a + bs a.length * nv b:=by
  induction a with
  | nil=>simp [nv,bs_zero]
  | cons d a ih=>rw [List.cons_append,nv_cons,nv_cons,ih,List.length_cons,bs_succ,Int.mul_add,Int.mul_assoc,Int.add_assoc]
theorem nv_zeros (n:Nat):nv (List.replicate n 0)=0:=by
  induction n with
  | zero=>rfl
  | succ n ih=>rw [List.replicate_succ,nv_cons,ih];rfl
theorem nv_nonneg {l:List Int} (h:Dg l):0≤nv l:=by
  induction l with
  | nil=>exact Int.le_refl _
  | cons d l ih=>have:=Dg.cons.1 h;have:=ih this.2;rw [nv_cons];omega
theorem nv_lt {l:List Int} (h:Dg l):nv l < bs l.length:=by
  induction l with
  | nil=>decide
  | cons d l ih=>have:=Dg.cons.1 h;have:=ih this.2;rw [nv_cons,List.length_cons,bs_succ];omega
theorem nv_take_succ {l:List Int} {i:Nat} (h:i < l.length):nv (l.take (i + 1))=nv (l.take i) + bs i * l[i]:=by
  rw [List.take_succ_eq_append_getElem h,nv_app,nv_cons,nv_nil,List.length_take,Nat.min_eq_left (by omega)];simp
theorem take_set_ge {l:List Int} {i j:Nat} {d:Int} (h:i≤j):(l.set j d).take i=l.take i:=by
  rw [List.take_set]
  exact List.set_eq_of_length_le (by rw [List.length_take];omega)
def Nm (l:List Int):Prop:=Dg l∧∀ h:l ≠ [],l.getLast h ≠ 0
theorem Nm.nil:Nm []:=⟨Dg.nil,fun h=>absurd rfl h⟩
theorem Nm.lower {l:List Int} (h:Nm l) (h0:l ≠ []):bs (l.length - 1)≤nv l:=by
  obtain ⟨m,d,rfl⟩:∃ m d,l=m ++ [d]:=⟨l.dropLast,l.getLast h0,(List.dropLast_concat_getLast h0).symm⟩
  have hd:=Dg.app.1 h.1
  have h1:=h.2 (by simp)
  rw [List.getLast_concat] at h1
  have h2:=(Dg.cons.1 hd.2).1
  have h3:=nv_nonneg hd.1
  rw [nv_app,nv_cons,nv_nil,List.length_append,List.length_singleton,Nat.add_sub_cancel]
  have h4:bs m.length * 1≤bs m.length * (d + 4294967296 * 0):=Int.mul_le_mul_of_nonneg_left (by omega) (Int.le_of_lt (bs_pos _))
  omega
theorem Nm.zero {l:List Int} (h:Nm l):nv l=0 ↔ l=[]:=by
  constructor
  · intro e
    apply Classical.byContradiction
    intro h0
    have:=h.lower h0
    have:=bs_pos (l.length - 1)
    omega
  · rintro rfl;rfl
theorem bs_le {a b:Nat} (h:a≤b):bs a≤bs b:=by
  obtain ⟨c,rfl⟩:∃ c,b=a + c:=⟨b - a,by omega⟩
  rw [bs_add]
  have:=bs_pos a
  have h1:bs a * 1≤bs a * bs c:=Int.mul_le_mul_of_nonneg_left (by have:=bs_pos c;omega) (Int.le_of_lt this)
  omega
theorem Nm.len_lt {a b:List Int} (ha:Dg a) (hb:Nm b) (h:a.length < b.length):nv a < nv b:=by
  have h1:=nv_lt ha
  have h2:=hb.lower (by intro e;rw [e] at h;simp at h)
  have h3:=bs_le (show a.length≤b.length - 1 by omega)
  omega
attribute [irreducible] bs nv
end Nv
