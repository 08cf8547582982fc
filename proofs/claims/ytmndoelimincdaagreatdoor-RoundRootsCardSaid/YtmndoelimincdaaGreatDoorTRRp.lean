import Derived.Test.YtmndoelimincdaaGreatDoorTRRl
import Derived.Test.YtmndoelimincdaaGreatDoorTRRo
import Derived.Test.YtmndoelimincdaaGreatDoorTRRn
namespace Go.Proofs.YtmndoelimincdaaGreatDoor.XRf
open Go Go.RowKit Go.Proofs.YtmndoelimincdaaGreatDoorW.PrintWords Nv
set_option maxRecDepth 100000
theorem rd_nat {l:List Int} {i:Nat} (h:i < l.length):rd l (i:Int)=l[i]:=by
  unfold rd
  rw [Int.toNat_natCast,List.getD_eq_getElem?_getD,List.getElem?_eq_getElem h];rfl
theorem low_l0 (l:List Int) (hd:Dg l) (hl:l.length≤4611686018427387904):∀ n k,n≤l.length→n < k→∃ r,girderref00_low.l0 k l (n:Int)=some r∧nv r=nv (l.take n)∧Nm r∧r.length≤n:=by
  intro n
  induction n with
  | zero =>
    intro k hn hk
    obtain ⟨k,rfl⟩:∃ m,k=m + 1:=⟨k - 1,by omega⟩
    refine ⟨[],?_,by simp,Nm.nil,by simp⟩
    simp only [girderref00_low.l0]
    rw [if_neg (by omega),if_pos (by omega),if_pos (by omega)];simp
  | succ n ih =>
    intro k hn hk
    obtain ⟨k,rfl⟩:∃ m,k=m + 1:=⟨k - 1,by omega⟩
    have hw:wrap64 (((n + 1:Nat):Int) - 1)=(n:Int):=by unfold wrap64;omega
    simp only [girderref00_low.l0]
    rw [if_pos (by omega),hw,if_pos (by omega),if_pos (by omega),rd_nat (by omega)]
    by_cases h0:l[n]=0
    · rw [if_pos h0]
      obtain ⟨r,h1,h2,h3,h4⟩:=ih k (by omega) (by omega)
      exact ⟨r,h1,by rw [h2,nv_take_succ (by omega),h0];simp,h3,by omega⟩
    · rw [if_neg h0,if_pos (by omega),if_pos (by omega),Int.toNat_natCast]
      refine ⟨_,rfl,rfl,⟨hd.take _,fun h=>?_⟩,by simp;omega⟩
      have e:l.take (n + 1)=l.take n ++ [l[n]]:=List.take_succ_eq_append_getElem (by omega)
      simp only [e,List.getLast_concat]
      exact h0
theorem low_f (l:List Int) (hd:Dg l) (hl:l.length≤4611686018427387904) (k:Nat) (hk:l.length < k):∃ r,girderref00_low.f k l=some r∧nv r=nv l∧Nm r∧r.length≤l.length:=by
  obtain ⟨r,h1,h2,h3,h4⟩:=low_l0 l hd hl l.length k (Nat.le_refl _) hk
  exact ⟨r,h1,by rw [h2,List.take_length],h3,h4⟩
theorem ntrim_l0 (l:List Int) (hd:Lm l) (hl:l.length≤1099511627776):∀ n k,n≤l.length→n < k→∃ r,girderref00_NatTrim.l0 k l (n:Int)=some r∧lv r=lv (l.take n)∧Nl r∧r.length≤n:=by
  intro n
  induction n with
  | zero =>
    intro k hn hk
    obtain ⟨k,rfl⟩:∃ m,k=m + 1:=⟨k - 1,by omega⟩
    refine ⟨[],?_,by simp,Nl.nil,by simp⟩
    simp only [girderref00_NatTrim.l0]
    rw [if_neg (by omega),if_pos (by omega),if_pos (by omega),if_pos (by simp)];simp
  | succ n ih =>
    intro k hn hk
    obtain ⟨k,rfl⟩:∃ m,k=m + 1:=⟨k - 1,by omega⟩
    have hw:wrap64 (((n + 1:Nat):Int) - 1)=(n:Int):=by unfold wrap64;omega
    simp only [girderref00_NatTrim.l0]
    rw [if_pos (by omega),hw,if_pos (by omega),if_pos (by omega),rd_nat (by omega)]
    by_cases h0:l[n]=0
    · rw [if_pos h0]
      obtain ⟨r,h1,h2,h3,h4⟩:=ih k (by omega) (by omega)
      exact ⟨r,h1,by rw [h2,lv_take_succ (by omega),h0];simp,h3,by omega⟩
    · rw [if_neg h0,if_pos (by omega),if_pos (by omega),Int.toNat_natCast,if_pos (by simp;omega),List.nil_append]
      refine ⟨_,rfl,rfl,⟨hd.take _,fun h=>?_⟩,by simp;omega⟩
      have e:l.take (n + 1)=l.take n ++ [l[n]]:=List.take_succ_eq_append_getElem (by omega)
      simp only [e,List.getLast_concat]
      exact h0
theorem ntrim_f (l:List Int) (hd:Lm l) (hl:l.length≤1099511627776) (k:Nat) (hk:l.length < k):∃ r,girderref00_NatTrim.f k l=some r∧lv r=lv l∧Nl r∧r.length≤l.length:=by
  obtain ⟨r,h1,h2,h3,h4⟩:=ntrim_l0 l hd hl l.length k (Nat.le_refl _) hk
  exact ⟨r,h1,by rw [h2,List.take_length],h3,h4⟩
theorem natOf_f (x:Nat) (hx:x < 18446744073709551616) (k:Nat) (hk:1 < k):∃ r,girderref00_NatOf.f k (x:Int)=some r∧lv r=x∧Nl r∧r.length≤1:=by
  have hd:Lm [(x:Int)]:=by rw [Lm.cons];exact ⟨by omega,Lm.nil⟩
  obtain ⟨r,h1,h2,h3,h4⟩:=ntrim_f _ hd (by simp) k (by simpa using hk)
  refine ⟨r,?_,by rw [h2,lv_cons,lv_nil];omega,h3,by simpa using h4⟩
  unfold girderref00_NatOf.f
  rw [h1];rfl
theorem halves_l0 (l:List Int) (hd:Lm l) (hl:l.length≤1099511627776):∀ d i k,i + d=l.length→d + 2 * l.length + 1 < k →
    ∃ r,girderref00_halves.l0 k l (spl (l.take i)) (i:Int)=some r∧nv r=lv l∧Nm r∧r.length≤2 * l.length:=by
  intro d
  induction d with
  | zero =>
    intro i k hi hk
    obtain ⟨k,rfl⟩:∃ m,k=m + 1:=⟨k - 1,by omega⟩
    obtain rfl:i=l.length:=by omega
    rw [List.take_length]
    obtain ⟨r,h1,h2,h3,h4⟩:=low_f (spl l) (spl_dg hd) (by rw [spl_len];omega) k (by rw [spl_len];omega)
    simp only [girderref00_halves.l0]
    rw [if_neg (by omega),h1]
    exact ⟨r,rfl,by rw [h2,spl_nv],h3,by rw [spl_len] at h4;exact h4⟩
  | succ d ih =>
    intro i k hi hk
    obtain ⟨k,rfl⟩:∃ m,k=m + 1:=⟨k - 1,by omega⟩
    have hil:i < l.length:=by omega
    have hx:=hd.at hil
    have hw:wrap64 ((i:Int) + 1)=((i + 1:Nat):Int):=by unfold wrap64;omega
    simp only [girderref00_halves.l0]
    rw [if_pos (by omega),if_pos (by omega),rd_nat hil,hw,Option.bind_some]
    have e1:Int.tmod l[i] 4294967296=l[i] % 4294967296:=Int.tmod_eq_emod_of_nonneg hx.1
    have e2:IntKind.u64.wrap (Int.tdiv l[i] 4294967296)=l[i] / 4294967296:=by rw [Int.tdiv_eq_ediv_of_nonneg hx.1,IntKind.wrap_u64];omega
    rw [e1,e2,if_pos (by rw [spl_len,List.length_take];simp;omega)]
    have e3:spl (l.take i) ++ [l[i] % 4294967296,l[i] / 4294967296]=spl (l.take (i + 1)):=by
      rw [List.take_succ_eq_append_getElem hil,spl_app];rfl
    rw [e3]
    exact ih (i + 1) k (by omega) (by omega)
theorem halves_f (l:List Int) (hd:Lm l) (hl:l.length≤1099511627776) (k:Nat) (hk:3 * l.length + 1 < k):∃ r,girderref00_halves.f k l=some r∧nv r=lv l∧Nm r∧r.length≤2 * l.length:=by
  have:=halves_l0 l hd hl l.length 0 k (by omega) (by omega)
  exact this
theorem limbs_l0 (l:List Int) (hd:Dg l) (hl:l.length≤1099511627776):∀ d i k (out:List Int),2 * i + 2 * d≤l.length + 1→l.length≤2 * i + 2 * d→d + l.length + 2 < k→out.length=i→Lm out→lv out=nv (l.take (2 * i))→2 * i≤l.length + 1 →
    ∃ r,girderref00_limbs.l0 k l out ((2 * i:Nat):Int)=some r∧lv r=nv l∧Nl r∧r.length≤i + d:=by
  intro d
  induction d with
  | zero =>
    intro i k out hi1 hi2 hk ho hm hv _
    obtain ⟨k,rfl⟩:∃ m,k=m + 1:=⟨k - 1,by omega⟩
    obtain ⟨r,h1,h2,h3,h4⟩:=ntrim_f out hm (by omega) k (by omega)
    simp only [girderref00_limbs.l0]
    rw [if_neg (by omega),h1]
    exact ⟨r,rfl,by rw [h2,hv,List.take_of_length_le (by omega)],h3,by omega⟩
  | succ d ih =>
    intro i k out hi1 hi2 hk ho hm hv hi3
    obtain ⟨k,rfl⟩:∃ m,k=m + 1:=⟨k - 1,by omega⟩
    have hil:2 * i < l.length:=by omega
    have hx:=hd.at hil
    have hw:wrap64 (((2 * i:Nat):Int) + 1)=((2 * i + 1:Nat):Int):=by unfold wrap64;omega
    have hw2:wrap64 (((2 * i:Nat):Int) + 2)=((2 * (i + 1):Nat):Int):=by unfold wrap64;omega
    have bsl:bs (2 * i)=ls i:=by
      unfold bs ls
      rw [show (18446744073709551616:Int)=4294967296 ^ 2 by decide,← Int.pow_mul]
    simp only [girderref00_limbs.l0]
    rw [if_pos (by omega),if_pos (by omega),hw,hw2,rd_nat hil]
    by_cases h2:2 * i + 1 < l.length
    · have hy:=hd.at h2
      have e1:IntKind.u64.wrap (l[2 * i] + IntKind.u64.wrap (4294967296 * l[2 * i + 1]))=l[2 * i] + 4294967296 * l[2 * i + 1]:=by
        rw [IntKind.wrap_u64,IntKind.wrap_u64];omega
      rw [if_pos (by omega),if_pos (by omega),if_pos (by omega),rd_nat h2,e1]
      obtain ⟨r,h1,h3,h4,h5⟩:=ih (i + 1) k (out ++ [l[2 * i] + 4294967296 * l[2 * i + 1]]) (by omega) (by omega) (by omega) (by simp [ho]) (by rw [Lm.app,Lm.cons];exact ⟨hm,⟨by omega,by omega⟩,Lm.nil⟩) (by
        rw [lv_app,lv_cons,lv_nil,ho,hv,show 2 * (i + 1)=2 * i + 1 + 1 by omega,nv_take_succ h2,nv_take_succ hil,bs_succ,bsl,Int.mul_zero,Int.add_zero,Int.mul_add]
        have:ls i * (4294967296 * l[2 * i + 1])=4294967296 * ls i * l[2 * i + 1]:=by rw [← Int.mul_assoc,Int.mul_comm (ls i)]
        omega) (by omega)
      exact ⟨r,h1,h3,h4,by omega⟩
    · rw [if_neg (by omega),if_pos (by omega)]
      obtain ⟨r,h1,h3,h4,h5⟩:=ih (i + 1) k (out ++ [l[2 * i]]) (by omega) (by omega) (by omega) (by simp [ho]) (by rw [Lm.app,Lm.cons];exact ⟨hm,⟨by omega,by omega⟩,Lm.nil⟩) (by
        rw [lv_app,lv_cons,lv_nil,ho,hv,List.take_of_length_le (show l.length≤2 * (i + 1) by omega),← bsl,Int.mul_zero,Int.add_zero]
        have:=nv_take_succ hil
        rw [List.take_of_length_le (show l.length≤2 * i + 1 by omega)] at this
        exact this.symm) (by omega)
      exact ⟨r,h1,h3,h4,by omega⟩
theorem limbs_f (l:List Int) (hd:Dg l) (hl:l.length≤1099511627776) (k:Nat) (hk:2 * l.length + 4 < k):∃ r,girderref00_limbs.f k l=some r∧lv r=nv l∧Nl r∧2 * r.length≤l.length + 1:=by
  obtain ⟨r,h1,h2,h3,h4⟩:=limbs_l0 l hd hl ((l.length + 1) / 2) 0 k [] (by omega) (by omega) (by omega) rfl Lm.nil (by rw [lv_nil];simp [nv_nil]) (by omega)
  exact ⟨r,h1,h2,h3,by omega⟩
end Go.Proofs.YtmndoelimincdaaGreatDoor.XRf
namespace Go.Proofs.YtmndoelimincdaaGreatDoor.XRf
open Go Go.RowKit Go.Proofs.YtmndoelimincdaaGreatDoorW.PrintWords Nv
set_option maxRecDepth 100000
theorem nv_set {l:List Int} {i:Nat} (h:i < l.length) (d:Int):nv (l.set i d)=nv l + bs i * (d - l[i]):=by
  have h1:=nv_app (l.take (i + 1)) (l.drop (i + 1))
  rw [List.take_append_drop,nv_take_succ h,List.length_take,Nat.min_eq_left (by omega)] at h1
  have hs:i < (l.set i d).length:=by simpa using h
  have h2:=nv_app ((l.set i d).take (i + 1)) ((l.set i d).drop (i + 1))
  rw [List.take_append_drop,nv_take_succ hs,List.length_take,Nat.min_eq_left (by simp;omega),take_set_ge (Nat.le_refl _),List.getElem_set_self,List.drop_set_of_lt (by omega)] at h2
  rw [h1,h2,Int.mul_sub]
  generalize bs (i + 1) * nv (l.drop (i + 1))=u
  generalize bs i * d=v
  generalize bs i * l[i]=w
  omega
theorem mul_bound {a b c r:Int} (a0:0≤a) (a1:a < 4294967296) (b0:0≤b) (b1:b < 4294967296) (c0:0≤c) (c1:c < 4294967296) (r0:0≤r) (r1:r < 4294967296) :
    IntKind.u64.wrap (IntKind.u64.wrap (IntKind.u64.wrap (a * b) + r) + c)=c + a * b + r∧0≤c + a * b + r∧(c + a * b + r) / 4294967296 < 4294967296:=by
  have h0:=Int.mul_nonneg a0 b0
  have h1:a * b≤4294967295 * 4294967295:=by
    have e1:a * b≤4294967295 * b:=Int.mul_le_mul_of_nonneg_right (by omega) b0
    have e2:4294967295 * b≤4294967295 * 4294967295:=by omega
    omega
  generalize a * b=p at *
  simp only [IntKind.wrap_u64]
  omega
theorem mul_alg {N c p r T s q m:Int} (hT:T=c + p + r) (hq:T=4294967296 * q + m):(N + s * (m - r)) + q * (4294967296 * s)=N + c * s + s * p:=by
  have hm:m=c + p + r - 4294967296 * q:=by omega
  subst hm
  rw [show s * (c + p + r - 4294967296 * q - r)=s * (c + (p - 4294967296 * q)) by congr 1;omega,Int.mul_add,Int.mul_sub,Int.mul_comm q,← Int.mul_assoc s,Int.mul_comm s 4294967296,Int.mul_assoc 4294967296 s,Int.mul_comm c s]
  generalize s * c=a
  generalize s * p=b
  generalize s * q=d
  omega
def Post (a b:List Int) (o:Option (List Int)):Prop:=∃ r,o=some r∧nv r=nv a * nv b∧Nm r∧r.length≤a.length + b.length
theorem mul_l1 (a b:List Int) (ha:Dg a) (hb:Dg b) (hl:a.length + b.length≤1099511627776) (i:Nat) (hi:i < a.length) (K:Nat) (V:Int) (Z:List Int)
    (hR:∀ k r,K≤k→Dg r→r.length=a.length + b.length→nv r=V→r.drop (i + 1 + b.length)=Z→Post a b (girderref00_product.l0 k a b r ((i + 1:Nat):Int))) :
    ∀ e j k (r:List Int) (c:Int),j + e=b.length→K + e + 1≤k→Dg r→(hrl:r.length=a.length + b.length)→0≤c→c < 4294967296→(∀ h:i + b.length < r.length,r[i + b.length]=0)→r.drop (i + 1 + b.length)=Z →
      nv r + c * bs (i + j) + bs i * (a[i] * (nv b - nv (b.take j)))=V→Post a b (girderref00_product.l1 k a b r (i:Int) c (j:Int)):=by
  intro e
  induction e with
  | zero =>
    intro j k r c hj hk hd hrl hc0 hc1 hz hZ hV
    obtain ⟨k,rfl⟩:∃ m,k=m + 1:=⟨k - 1,by clear hV hz;omega⟩
    obtain rfl:j=b.length:=by clear hV hz;omega
    have hlt:i + b.length < r.length:=by clear hV hz;omega
    have q1:(0:Int)≤((i + b.length:Nat):Int):=by clear hV hz;omega
    have q2:((i + b.length:Nat):Int) < (r.length:Int):=by clear hV hz;omega
    have q3:K≤k:=Nat.le_of_succ_le_succ hk
    have q4:i + b.length < i + 1 + b.length:=by clear hV hz;omega
    have hw:wrap64 ((i:Int) + (b.length:Int))=((i + b.length:Nat):Int):=by clear hV hz;unfold wrap64;omega
    have hw1:wrap64 ((i:Int) + 1)=((i + 1:Nat):Int):=by clear hV hz hw;unfold wrap64;omega
    simp only [girderref00_product.l1]
    rw [if_neg (Int.lt_irrefl _),hw,if_pos q1,if_pos q2,Int.toNat_natCast,hw1]
    refine hR k (r.set (i + b.length) c) q3 (hd.set hc0 hc1) (by rw [List.length_set];exact hrl) ?_ ?_
    · rw [nv_set hlt,hz hlt,← hV,List.take_length,Int.sub_self,Int.mul_zero,Int.mul_zero,Int.add_zero,Int.sub_zero,Int.mul_comm]
    · rw [List.drop_set_of_lt q4];exact hZ
  | succ e ih =>
    intro j k r c hj hk hd hrl hc0 hc1 hz hZ hV
    obtain ⟨k,rfl⟩:∃ m,k=m + 1:=⟨k - 1,by clear hV hz;omega⟩
    have hjb:j < b.length:=by clear hV hz;omega
    have hij:i + j < r.length:=by clear hV hz;omega
    have p1:(j:Int) < (b.length:Int):=by clear hV hz;omega
    have p2:(0:Int)≤(i:Int):=by clear hV hz;omega
    have p3:(i:Int) < (a.length:Int):=by clear hV hz;omega
    have p4:(0:Int)≤(j:Int):=by clear hV hz;omega
    have p5:(0:Int)≤((i + j:Nat):Int):=by clear hV hz;omega
    have p6:((i + j:Nat):Int) < (r.length:Int):=by clear hV hz;omega
    have g1:j + 1 + e=b.length:=by clear hV hz;omega
    have g2:K + e + 1≤k:=Nat.le_of_succ_le_succ hk
    have g3:i + j ≠ i + b.length:=by clear hV hz;omega
    have g4:i + j < i + 1 + b.length:=by clear hV hz;omega
    have hw:wrap64 ((i:Int) + (j:Int))=((i + j:Nat):Int):=by clear hV hz;unfold wrap64;omega
    have hw1:wrap64 ((j:Int) + 1)=((j + 1:Nat):Int):=by clear hV hz hw;unfold wrap64;omega
    have da:=ha.at hi
    have db:=hb.at hjb
    have dr:=hd.at hij
    obtain ⟨hT,t0,t1⟩:=mul_bound da.1 da.2 db.1 db.2 hc0 hc1 dr.1 dr.2
    have hq:IntKind.u64.wrap ((c + a[i] * b[j] + r[i + j]) / 4294967296)=(c + a[i] * b[j] + r[i + j]) / 4294967296:=by clear hV hz ih hT;rw [IntKind.wrap_u64];omega
    simp only [girderref00_product.l1]
    rw [if_pos p1,if_pos p2,if_pos p3,if_pos p4,hw,if_pos p5,if_pos p6,rd_nat hi,rd_nat hjb,rd_nat hij,hT,hw1,Int.toNat_natCast,Int.tmod_eq_emod_of_nonneg t0,Int.tdiv_eq_ediv_of_nonneg t0,hq]
    have m0:0≤(c + a[i] * b[j] + r[i + j]) % 4294967296:=Int.emod_nonneg _ (by decide)
    have m1:(c + a[i] * b[j] + r[i + j]) % 4294967296 < 4294967296:=Int.emod_lt_of_pos _ (by decide)
    have m2:0≤(c + a[i] * b[j] + r[i + j]) / 4294967296:=Int.ediv_nonneg t0 (by decide)
    refine ih (j + 1) k _ _ g1 g2 (hd.set m0 m1) (by rw [List.length_set];exact hrl) m2 t1 ?_ ?_ ?_
    · intro h
      rw [List.getElem_set_ne g3]
      exact hz (by rw [List.length_set] at h;exact h)
    · rw [List.drop_set_of_lt g4];exact hZ
    · rw [nv_set hij,← Nat.add_assoc,bs_succ (i + j),mul_alg (c:=c) (p:=a[i] * b[j]) (r:=r[i + j]) rfl (Int.mul_ediv_add_emod _ _).symm,nv_take_succ hjb,bs_add,← hV]
      rw [bs_add,← Int.sub_sub,Int.mul_sub (a[i]) (nv b - nv (b.take j)),Int.mul_sub (bs i)]
      have e1:bs i * (a[i] * (bs j * b[j]))=bs i * bs j * (a[i] * b[j]):=by
        rw [Int.mul_left_comm a[i],Int.mul_assoc]
      rw [e1]
      generalize bs i * bs j * (a[i] * b[j])=u
      generalize bs i * (a[i] * (nv b - nv (b.take j)))=v
      generalize c * (bs i * bs j)=w
      omega
theorem mul_l0 (a b:List Int) (ha:Dg a) (hb:Dg b) (hl:a.length + b.length≤1099511627776):∀ d i k (r:List Int),i + d=a.length→d * (b.length + 3) + (a.length + b.length + 3)≤k→Dg r→r.length=a.length + b.length→nv r=nv (a.take i) * nv b→r.drop (i + b.length)=List.replicate d 0 →
    Post a b (girderref00_product.l0 k a b r (i:Int)):=by
  intro d
  induction d with
  | zero =>
    intro i k r hi hk hd hrl hv _
    obtain rfl:i=a.length:=by clear hv;omega
    obtain ⟨k,rfl⟩:∃ m,k=m + 1:=⟨k - 1,by clear hv;omega⟩
    obtain ⟨o,h1,h2,h3,h4⟩:=low_f r hd (by clear hv;omega) k (by clear hv;omega)
    simp only [girderref00_product.l0]
    rw [if_neg (Int.lt_irrefl _),h1]
    exact ⟨o,rfl,by rw [h2,hv,List.take_length],h3,by rw [hrl] at h4;exact h4⟩
  | succ d ih =>
    intro i k r hi hk hd hrl hv hz
    rw [Nat.succ_mul] at hk
    obtain ⟨k,rfl⟩:∃ m,k=m + 1:=⟨k - 1,by clear hv hz ih;omega⟩
    have hia:i < a.length:=by clear hv hz ih;omega
    have p1:(i:Int) < (a.length:Int):=by clear hv hz ih;omega
    have hkk:d * (b.length + 3) + (a.length + b.length + 3) + b.length + 1≤k:=by clear hv hz ih;omega
    have hlt:i + b.length < r.length:=by clear hv hz ih;omega
    have g1:i + 1 + d=a.length:=by clear hv hz ih;omega
    have e:i + 1 + b.length=i + b.length + 1:=by clear hv hz ih;omega
    have hc:r[i + b.length] :: r.drop (i + b.length + 1)=0 :: List.replicate d 0:=by rw [← List.drop_eq_getElem_cons hlt,hz,List.replicate_succ]
    obtain ⟨z0,z1⟩:=List.cons.inj hc
    simp only [girderref00_product.l0]
    rw [if_pos p1]
    refine mul_l1 a b ha hb hl i hia (d * (b.length + 3) + (a.length + b.length + 3)) (nv (a.take (i + 1)) * nv b) (List.replicate d 0) (fun k r hk hd hrl hv hz=>ih (i + 1) k r g1 hk hd hrl hv hz) b.length 0 k r 0 (Nat.zero_add _) hkk hd hrl (Int.le_refl _) (by decide) (fun _=>z0) (by rw [e];exact z1) ?_
    rw [hv,nv_take_succ hia,List.take_zero,nv_nil,Int.zero_mul,Int.add_zero,Int.sub_zero,Int.add_mul,Int.mul_assoc]
theorem product_f (a b:List Int) (ha:Dg a) (hb:Dg b) (hl:a.length + b.length≤1099511627776) (k:Nat) (hk:a.length * (b.length + 3) + (a.length + b.length + 4)≤k):Post a b (girderref00_product.f k a b):=by
  have hw:wrap64 ((a.length:Int) + (b.length:Int))=((a.length + b.length:Nat):Int):=by unfold wrap64;omega
  unfold girderref00_product.f
  rw [hw,if_pos (by omega),if_pos (by omega),Int.toNat_natCast]
  exact mul_l0 a b ha hb hl a.length 0 k _ (by omega) (by omega) (Dg.zeros _) (by simp) (by simp [nv_zeros,nv_nil]) (by simp)
def K0:Nat:=1267650600228229401496703205376
theorem K0_big {a b:Nat} (ha:a≤1099511627776) (hb:b≤1099511627776):a * (b + 3) + (a + b + 4)≤K0:=by
  have:a * (b + 3)≤1099511627776 * (b + 3):=Nat.mul_le_mul_right _ ha
  unfold K0
  omega
theorem natMul_f (a b:List Int) (ha:Lm a) (hb:Lm b) (la:a.length≤68719476736) (lb:b.length≤68719476736):∃ r,girderref00_NatMul.f K0 a b=some r∧lv r=lv a * lv b∧Nl r:=by
  obtain ⟨t,h1,h2,h3,h4⟩:=halves_f a ha (by omega) K0 (by unfold K0;omega)
  obtain ⟨u,g1,g2,g3,g4⟩:=halves_f b hb (by omega) K0 (by unfold K0;omega)
  obtain ⟨q,e1,e2,e3,e4⟩:=product_f t u h3.1 g3.1 (by omega) K0 (K0_big (by omega) (by omega))
  obtain ⟨r,d1,d2,d3,d4⟩:=limbs_f q e3.1 (by omega) K0 (by unfold K0;omega)
  refine ⟨r,?_,by rw [d2,e2,h2,g2],d3⟩
  unfold girderref00_NatMul.f
  rw [h1,g1,Option.bind_some,Option.bind_some,e1,Option.bind_some,d1,Option.bind_some]
theorem K0_ge {n:Nat} (h:n≤1267650600228229401496703205376):n≤K0:=by unfold K0;exact h
attribute [irreducible] K0
end Go.Proofs.YtmndoelimincdaaGreatDoor.XRf
namespace Go.Proofs.YtmndoelimincdaaGreatDoor.XRf
open Go Go.RowKit Go.Proofs.YtmndoelimincdaaGreatDoorW.PrintWords Nv
set_option maxRecDepth 100000
theorem digit_f (l:List Int) (i:Nat):girderref00_digit.f l (i:Int)=some (l.getD i 0):=by
  unfold girderref00_digit.f
  by_cases h:i < l.length
  · rw [if_pos (by omega),if_pos (by omega),rd_nat h,List.getD_eq_getElem?_getD,List.getElem?_eq_getElem h];rfl
  · rw [if_neg (by omega),List.getD_eq_getElem?_getD,List.getElem?_eq_none (by omega)];rfl
theorem Dg.getD {l:List Int} (h:Dg l) (i:Nat):0≤l.getD i 0∧l.getD i 0 < 4294967296:=by
  rw [List.getD_eq_getElem?_getD]
  by_cases hi:i < l.length
  · rw [List.getElem?_eq_getElem hi];exact h.at hi
  · rw [List.getElem?_eq_none (by omega)];simp
theorem nv_take_getD (l:List Int) (i:Nat):nv (l.take (i + 1))=nv (l.take i) + bs i * l.getD i 0:=by
  by_cases hi:i < l.length
  · rw [nv_take_succ hi,List.getD_eq_getElem?_getD,List.getElem?_eq_getElem hi];rfl
  · rw [List.take_of_length_le (by omega),List.take_of_length_le (by omega),List.getD_eq_getElem?_getD,List.getElem?_eq_none (by omega)]
    simp
theorem add_step (a b out:List Int) (c:Int) (i k:Nat) (ha:Dg a) (hb:Dg b) (hc0:0≤c) (hc1:c≤1) (ho:out.length < 17592186044416) (hi:i≤1099511627776) (h:i < a.length ∨ i < b.length ∨ c=1) :
    girderref00_NatAdd.l0 (k + 2) a b out c (i:Int)=girderref00_NatAdd.l0 k a b (out ++ [(a.getD i 0 + b.getD i 0 + c) % 4294967296]) ((a.getD i 0 + b.getD i 0 + c) / 4294967296) ((i + 1:Nat):Int):=by
  have da:=Dg.getD ha i
  have db:=Dg.getD hb i
  have j:girderref00_NatAdd.j1 (k + 1) a b out c (i:Int) true=girderref00_NatAdd.l0 k a b (out ++ [(a.getD i 0 + b.getD i 0 + c) % 4294967296]) ((a.getD i 0 + b.getD i 0 + c) / 4294967296) ((i + 1:Nat):Int):=by
    have hw:wrap64 ((i:Int) + 1)=((i + 1:Nat):Int):=by unfold wrap64;omega
    have e1:IntKind.u64.wrap (IntKind.u64.wrap (a.getD i 0 + b.getD i 0) + c)=a.getD i 0 + b.getD i 0 + c:=by rw [IntKind.wrap_u64,IntKind.wrap_u64];omega
    have e2:IntKind.u64.wrap ((a.getD i 0 + b.getD i 0 + c) / 4294967296)=(a.getD i 0 + b.getD i 0 + c) / 4294967296:=by rw [IntKind.wrap_u64];omega
    simp only [girderref00_NatAdd.j1]
    rw [if_pos trivial,digit_f,digit_f,Option.bind_some,Option.bind_some,if_pos ho,e1,hw,Int.tmod_eq_emod_of_nonneg (by omega),Int.tdiv_eq_ediv_of_nonneg (by omega),e2]
  show girderref00_NatAdd.l0 (k + 1 + 1) a b out c (i:Int)=_
  rw [← j]
  simp only [girderref00_NatAdd.l0]
  by_cases h1:i < a.length
  · rw [if_pos (by omega)]
  · rw [if_neg (by omega)]
    by_cases h2:i < b.length
    · rw [if_pos (by omega)]
    · rw [if_neg (by omega),decide_eq_true (show c > 0 by omega)]
theorem add_end (a b out:List Int) (i k:Nat) (ha:a.length≤i) (hb:b.length≤i) (hd:Dg out) (ho:out.length≤1099511627776) (hk:2 * out.length + 4 < k) :
    ∃ r,girderref00_NatAdd.l0 (k + 2) a b out 0 (i:Int)=some r∧lv r=nv out∧Nl r:=by
  obtain ⟨r,h1,h2,h3,_⟩:=limbs_f out hd ho k (by omega)
  refine ⟨r,?_,h2,h3⟩
  show girderref00_NatAdd.l0 (k + 1 + 1) a b out 0 (i:Int)=_
  simp only [girderref00_NatAdd.l0]
  rw [if_neg (by omega),if_neg (by omega)]
  simp only [girderref00_NatAdd.j1]
  rw [if_neg (by simp),h1];rfl
theorem add_alg {X A B c s m q x y:Int} (h:X + c * s=A + B) (e:x + y + c=m + 4294967296 * q):X + s * (m + 4294967296 * 0) + q * (4294967296 * s)=A + s * x + (B + s * y):=by
  have e1:m=x + y + c - 4294967296 * q:=by omega
  subst e1
  have e2:s * (x + y + c - 4294967296 * q + 4294967296 * 0)=s * x + s * y + c * s - q * (4294967296 * s):=by
    rw [Int.mul_zero,Int.add_zero,Int.mul_sub,Int.mul_add,Int.mul_add,Int.mul_comm s c,← Int.mul_assoc s,Int.mul_comm s 4294967296,Int.mul_comm (4294967296 * s) q]
  rw [e2]
  generalize c * s=u at *
  generalize s * x=v
  generalize s * y=z
  generalize q * (4294967296 * s)=r
  omega
theorem add_l0 (a b:List Int) (ha:Dg a) (hb:Dg b) (la:a.length≤137438953472) (lb:b.length≤137438953472):∀ d i k (out:List Int) (c:Int),i + d=max a.length b.length→4 * d + 2 * max a.length b.length + 16 < k→out.length=i→Dg out→(c=0 ∨ c=1)→nv out + c * bs i=nv (a.take i) + nv (b.take i) →
    ∃ r,girderref00_NatAdd.l0 k a b out c (i:Int)=some r∧lv r=nv a + nv b∧Nl r:=by
  intro d
  induction d with
  | zero =>
    intro i k out c hi hk ho hd hc hv
    have t1:a.take i=a:=List.take_of_length_le (by omega)
    have t2:b.take i=b:=List.take_of_length_le (by omega)
    rw [t1,t2] at hv
    obtain ⟨k,rfl⟩:∃ m,k=m + 2:=⟨k - 2,by omega⟩
    rcases hc with rfl|rfl
    · obtain ⟨r,h1,h2,h3⟩:=add_end a b out i k (by omega) (by omega) hd (by omega) (by omega)
      exact ⟨r,h1,by rw [h2];omega,h3⟩
    · obtain ⟨k,rfl⟩:∃ m,k=m + 2:=⟨k - 2,by omega⟩
      rw [add_step a b out 1 i (k + 2) ha hb (by omega) (by omega) (by omega) (by omega) (.inr (.inr rfl))]
      have g1:a.getD i 0=0:=by rw [List.getD_eq_getElem?_getD,List.getElem?_eq_none (by omega)];rfl
      have g2:b.getD i 0=0:=by rw [List.getD_eq_getElem?_getD,List.getElem?_eq_none (by omega)];rfl
      rw [g1,g2]
      obtain ⟨r,h1,h2,h3⟩:=add_end a b (out ++ [(0 + 0 + 1) % 4294967296]) (i + 1) k (by omega) (by omega) (by rw [Dg.app,Dg.cons];exact ⟨hd,by decide,Dg.nil⟩) (by rw [List.length_append,List.length_singleton];omega) (by rw [List.length_append,List.length_singleton];omega)
      refine ⟨r,h1,?_,h3⟩
      rw [h2,nv_app,ho,← hv,nv_cons,nv_nil]
      omega
  | succ d ih =>
    intro i k out c hi hk ho hd hc hv
    obtain ⟨k,rfl⟩:∃ m,k=m + 2:=⟨k - 2,by omega⟩
    have da:=Dg.getD ha i
    have db:=Dg.getD hb i
    rw [add_step a b out c i k ha hb (by omega) (by omega) (by omega) (by omega) (by omega)]
    refine ih (i + 1) k _ _ (by omega) (by omega) (by simp [ho]) (by rw [Dg.app,Dg.cons];exact ⟨hd,by omega,Dg.nil⟩) (by omega) ?_
    rw [nv_app,nv_cons,nv_nil,ho,nv_take_getD,nv_take_getD,bs_succ]
    exact add_alg hv (by omega)
theorem natAdd_f (a b:List Int) (ha:Lm a) (hb:Lm b) (la:a.length≤68719476736) (lb:b.length≤68719476736):∃ r,girderref00_NatAdd.f K0 a b=some r∧lv r=lv a + lv b∧Nl r:=by
  obtain ⟨t,h1,h2,h3,h4⟩:=halves_f a ha (by omega) K0 (K0_ge (by omega))
  obtain ⟨u,g1,g2,g3,g4⟩:=halves_f b hb (by omega) K0 (K0_ge (by omega))
  obtain ⟨r,d1,d2,d3⟩:=add_l0 t u h3.1 g3.1 (by omega) (by omega) (max t.length u.length) 0 K0 [] 0 (by omega) (K0_ge (by omega)) rfl Dg.nil (.inl rfl) (by simp [nv_nil])
  refine ⟨r,?_,by rw [d2,h2,g2],d3⟩
  unfold girderref00_NatAdd.f
  rw [h1,g1,Option.bind_some,Option.bind_some]
  exact d1
theorem sub_alg {X A B c s m t ai y:Int} (h:X - c * s=A - B) (e:4294967296 + ai - y - c=m + 4294967296 * t):X + s * (m + 4294967296 * 0) - (1 - t) * (4294967296 * s)=A + s * ai - (B + s * y):=by
  have e1:m=4294967296 + ai - y - c - 4294967296 * t:=by omega
  subst e1
  have e2:s * (4294967296 + ai - y - c - 4294967296 * t + 4294967296 * 0)=4294967296 * s + s * ai - s * y - c * s - t * (4294967296 * s):=by
    rw [Int.mul_zero,Int.add_zero,Int.mul_sub,Int.mul_sub,Int.mul_sub,Int.mul_add,Int.mul_comm s c,← Int.mul_assoc s,Int.mul_comm s 4294967296,Int.mul_comm (4294967296 * s) t]
  rw [e2,Int.sub_mul,Int.one_mul]
  generalize c * s=u at *
  generalize s * ai=v
  generalize s * y=z
  generalize t * (4294967296 * s)=r
  generalize 4294967296 * s=q
  omega
theorem sub_l0 (a b:List Int) (ha:Dg a) (hb:Dg b) (la:a.length≤137438953472) (hle:nv b≤nv a) (hbl:b.length≤a.length):∀ d i k (out:List Int) (c:Int),i + d=a.length→d + 2 * a.length + 8 < k→out.length=i→Dg out→(c=0 ∨ c=1)→nv out - c * bs i=nv (a.take i) - nv (b.take i) →
    ∃ r,girderref00_NatSub.l0 k a b out c (i:Int)=some r∧lv r=nv a - nv b∧Nl r:=by
  intro d
  induction d with
  | zero =>
    intro i k out c hi hk ho hd hc hv
    obtain ⟨k,rfl⟩:∃ m,k=m + 1:=⟨k - 1,by omega⟩
    have t1:a.take i=a:=List.take_of_length_le (by omega)
    have t2:b.take i=b:=List.take_of_length_le (by omega)
    rw [t1,t2] at hv
    have h5:=nv_lt hd
    rw [ho] at h5
    have hc0:c=0:=by
      rcases hc with h|h
      · exact h
      · rw [h,Int.one_mul] at hv;omega
    subst hc0
    obtain ⟨r,h1,h2,h3,_⟩:=limbs_f out hd (by omega) k (by omega)
    simp only [girderref00_NatSub.l0]
    rw [if_neg (by omega),h1]
    exact ⟨r,rfl,by rw [h2];omega,h3⟩
  | succ d ih =>
    intro i k out c hi hk ho hd hc hv
    obtain ⟨k,rfl⟩:∃ m,k=m + 1:=⟨k - 1,by omega⟩
    have hia:i < a.length:=by omega
    have j1:(i:Int) < (a.length:Int):=by clear ih hv hle;omega
    have j2:(0:Int)≤(i:Int):=by clear ih hv hle;omega
    have j3:out.length < 17592186044416:=by clear ih hv hle;omega
    have g1:i + 1 + d=a.length:=by clear ih hv hle;omega
    have g2:d + 2 * a.length + 8 < k:=by clear ih hv hle;omega
    have da:=ha.at hia
    have db:=Dg.getD hb i
    have hw:wrap64 ((i:Int) + 1)=((i + 1:Nat):Int):=by clear ih hv hle;unfold wrap64;omega
    have hc2:0≤c∧c≤1:=by clear ih hv hle;omega
    rw [show girderref00_NatSub.l0 (k + 1) a b out c (i:Int)=girderref00_NatSub.l0 k a b (out ++ [(4294967296 + a[i] - b.getD i 0 - c) % 4294967296]) (1 - (4294967296 + a[i] - b.getD i 0 - c) / 4294967296) ((i + 1:Nat):Int) by
      clear ih hv hle hk hi hc
      obtain ⟨x,hx⟩:∃ x,a[i]=x:=⟨_,rfl⟩
      obtain ⟨y,hy⟩:∃ y,b.getD i 0=y:=⟨_,rfl⟩
      have e1:IntKind.u64.wrap (IntKind.u64.wrap (IntKind.u64.wrap (4294967296 + x) - y) - c)=4294967296 + x - y - c:=by
        rw [IntKind.wrap_u64,IntKind.wrap_u64,IntKind.wrap_u64];omega
      have s0:0≤4294967296 + x - y - c:=by omega
      have e2:IntKind.u64.wrap (1 - IntKind.u64.wrap ((4294967296 + x - y - c) / 4294967296))=1 - (4294967296 + x - y - c) / 4294967296:=by
        rw [IntKind.wrap_u64,IntKind.wrap_u64];omega
      simp only [girderref00_NatSub.l0]
      rw [if_pos j1,if_pos j2,digit_f,Option.bind_some,if_pos j3,rd_nat hia,hw,hx,hy,e1,Int.tmod_eq_emod_of_nonneg s0,Int.tdiv_eq_ediv_of_nonneg s0,e2]]
    obtain ⟨x,hx⟩:∃ x,a[i]=x:=⟨_,rfl⟩
    obtain ⟨y,hy⟩:∃ y,b.getD i 0=y:=⟨_,rfl⟩
    rw [hx] at da
    rw [hy] at db
    have m1:0≤(4294967296 + x - y - c) % 4294967296∧(4294967296 + x - y - c) % 4294967296 < 4294967296:=by clear ih hv hle hi hk;omega
    have m2:1 - (4294967296 + x - y - c) / 4294967296=0 ∨ 1 - (4294967296 + x - y - c) / 4294967296=1:=by clear ih hv hle hi hk m1;omega
    have m3:4294967296 + x - y - c=(4294967296 + x - y - c) % 4294967296 + 4294967296 * ((4294967296 + x - y - c) / 4294967296):=by clear ih hv hle hi hk m1 m2;omega
    rw [hx,hy]
    refine ih (i + 1) k _ _ g1 g2 (by rw [List.length_append,List.length_singleton,ho]) (by rw [Dg.app,Dg.cons];exact ⟨hd,m1,Dg.nil⟩) m2 ?_
    rw [nv_app,nv_cons,nv_nil,ho,nv_take_succ hia,nv_take_getD,bs_succ,hx,hy]
    exact sub_alg hv m3
theorem natSub_f (a b:List Int) (ha:Lm a) (hb:Lm b) (la:a.length≤68719476736) (lb:b.length≤68719476736) (hle:lv b≤lv a):∃ r,girderref00_NatSub.f K0 a b=some r∧lv r=lv a - lv b∧Nl r:=by
  obtain ⟨t,h1,h2,h3,h4⟩:=halves_f a ha (by omega) K0 (K0_ge (by omega))
  obtain ⟨u,g1,g2,g3,g4⟩:=halves_f b hb (by omega) K0 (K0_ge (by omega))
  have hbl:u.length≤t.length:=by
    rcases Nat.lt_or_ge t.length u.length with h|h
    · have:=Nm.len_lt h3.1 g3 h;omega
    · exact h
  obtain ⟨r,d1,d2,d3⟩:=sub_l0 t u h3.1 g3.1 (by omega) (by rw [h2,g2];exact hle) hbl t.length 0 K0 [] 0 (by omega) (K0_ge (by omega)) rfl Dg.nil (.inl rfl) (by simp [nv_nil])
  refine ⟨r,?_,by rw [d2,h2,g2],d3⟩
  unfold girderref00_NatSub.f
  rw [h1,g1,Option.bind_some,Option.bind_some]
  exact d1
end Go.Proofs.YtmndoelimincdaaGreatDoor.XRf
namespace Go.Proofs.YtmndoelimincdaaGreatDoor.XRf
open Go Go.RowKit Go.Proofs.YtmndoelimincdaaGreatDoorW.PrintWords Nv
set_option maxRecDepth 100000
theorem pow_bs (w:Nat):(2:Int) ^ (32 * w)=bs w:=by
  induction w with
  | zero=>rw [bs_zero];rfl
  | succ w ih=>rw [bs_succ,Nat.mul_succ,Int.pow_add,ih,Int.mul_comm];rfl
theorem up_alg {X A P W S s m q c ai:Int} (h:X + c * S=A * (P * W)) (hS:S=W * s) (e:ai * P + c=m + 4294967296 * q):X + S * (m + 4294967296 * 0) + q * (4294967296 * S)=(A + s * ai) * (P * W):=by
  have e1:m=ai * P + c - 4294967296 * q:=by omega
  subst e1
  have e0:S * (4294967296 * q)=q * (4294967296 * S):=by ac_rfl
  have e2:S * (ai * P + c - 4294967296 * q + 4294967296 * 0)=S * (ai * P) + c * S - q * (4294967296 * S):=by
    rw [Int.mul_zero,Int.add_zero,Int.mul_sub,Int.mul_add,Int.mul_comm S c,e0]
  have e3:S * (ai * P)=s * ai * (P * W):=by
    rw [hS];ac_rfl
  rw [e2,Int.add_mul,← h,e3]
  generalize c * S=u
  generalize s * ai * (P * W)=v
  generalize q * (4294967296 * S)=r
  omega
theorem up_l1 (a:List Int) (ha:Dg a) (w s:Nat) (hs:s < 32) (la:a.length + w≤274877906944):∀ d i k (out:List Int) (c:Int),i + d=a.length→d + 2 * (a.length + w) + 16 < k→out.length=w + i→Dg out→0≤c→c < 4294967296→nv out + c * bs (w + i)=nv (a.take i) * ((2:Int) ^ s * bs w) →
    ∃ r,girderref00_NatUp.l1 k a out c ((2:Int) ^ s) (i:Int)=some r∧lv r=nv a * ((2:Int) ^ s * bs w)∧Nl r:=by
  have hp:(1:Int)≤(2:Int) ^ s∧(2:Int) ^ s≤2147483648:=by
    have h1:(2:Nat) ^ s≤2 ^ 31:=Nat.pow_le_pow_right (by decide) (by omega)
    have h2:0 < (2:Nat) ^ s:=Nat.two_pow_pos s
    have h3:((2 ^ s:Nat):Int)=(2:Int) ^ s:=by push_cast;rfl
    rw [← h3]
    have h4:(2:Nat) ^ 31=2147483648:=by decide
    omega
  intro d
  induction d with
  | zero =>
    intro i k out c hi hk ho hd hc0 hc1 hv
    obtain ⟨k,rfl⟩:∃ m,k=m + 1:=⟨k - 1,by clear hv hp;omega⟩
    have t1:a.take i=a:=List.take_of_length_le (by clear hv hp;omega)
    rw [t1] at hv
    obtain ⟨r,h1,h2,h3,_⟩:=limbs_f (out ++ [c]) (by rw [Dg.app,Dg.cons];exact ⟨hd,⟨hc0,hc1⟩,Dg.nil⟩) (by rw [List.length_append,List.length_singleton];clear hv hp;omega) k (by rw [List.length_append,List.length_singleton];clear hv hp;omega)
    have j1:¬ (i:Int) < (a.length:Int):=by clear hv hp;omega
    have j2:out.length < 17592186044416:=by clear hv hp;omega
    simp only [girderref00_NatUp.l1]
    rw [if_neg j1,if_pos j2,h1]
    refine ⟨r,rfl,?_,h3⟩
    rw [h2,nv_app,nv_cons,nv_nil,ho,← hv,Int.mul_zero,Int.add_zero,Int.mul_comm]
  | succ d ih =>
    intro i k out c hi hk ho hd hc0 hc1 hv
    obtain ⟨k,rfl⟩:∃ m,k=m + 1:=⟨k - 1,by clear hv ih hp;omega⟩
    have hia:i < a.length:=by clear hv ih hp;omega
    have j1:(i:Int) < (a.length:Int):=by clear ih hv hp;omega
    have j2:(0:Int)≤(i:Int):=by clear ih hv hp;omega
    have j3:out.length < 17592186044416:=by clear ih hv hp;omega
    have g1:i + 1 + d=a.length:=by clear ih hv hp;omega
    have g2:d + 2 * (a.length + w) + 16 < k:=by clear ih hv hp;omega
    have da:=ha.at hia
    have hw:wrap64 ((i:Int) + 1)=((i + 1:Nat):Int):=by clear ih hv hp;unfold wrap64;omega
    obtain ⟨x,hx⟩:∃ x,a[i]=x:=⟨_,rfl⟩
    obtain ⟨P,hP⟩:∃ P,(2:Int) ^ s=P:=⟨_,rfl⟩
    rw [hP] at hp hv ih ⊢
    rw [hx] at da
    have p0:0≤x * P:=Int.mul_nonneg da.1 (by clear ih hv;omega)
    have p1:x * P≤4294967295 * 2147483648:=by
      have e1:x * P≤4294967295 * P:=Int.mul_le_mul_of_nonneg_right (by clear ih hv;omega) (by clear ih hv;omega)
      have e2:4294967295 * P≤4294967295 * 2147483648:=by clear ih hv e1;omega
      exact Int.le_trans e1 e2
    obtain ⟨T,hT⟩:∃ T,x * P=T:=⟨_,rfl⟩
    have e1:IntKind.u64.wrap (IntKind.u64.wrap (x * P) + c)=T + c:=by
      rw [hT] at p0 p1 ⊢
      clear ih hv hT
      rw [IntKind.wrap_u64,IntKind.wrap_u64];omega
    have s0:0≤T + c:=by rw [hT] at p0;clear ih hv;omega
    have s1:(T + c) / 4294967296 < 4294967296∧0≤(T + c) / 4294967296:=by rw [hT] at p0 p1;clear ih hv hT e1;omega
    have e2:IntKind.u64.wrap ((T + c) / 4294967296)=(T + c) / 4294967296:=by clear ih hv;rw [IntKind.wrap_u64];omega
    have m1:0≤(T + c) % 4294967296∧(T + c) % 4294967296 < 4294967296:=by clear ih hv;omega
    have m3:x * P + c=(T + c) % 4294967296 + 4294967296 * ((T + c) / 4294967296):=by rw [hT];clear ih hv;omega
    simp only [girderref00_NatUp.l1]
    rw [if_pos j1,if_pos j2,if_pos j3,rd_nat hia,hx,e1,Int.tmod_eq_emod_of_nonneg s0,Int.tdiv_eq_ediv_of_nonneg s0,e2,hw]
    refine ih (i + 1) k _ _ g1 g2 (by rw [List.length_append,List.length_singleton,ho];rfl) (by rw [Dg.app,Dg.cons];exact ⟨hd,m1,Dg.nil⟩) s1.2 s1.1 ?_
    rw [nv_app,nv_cons,nv_nil,ho,nv_take_succ hia,hx,← Nat.add_assoc,bs_succ]
    exact up_alg hv (bs_add w i) m3
theorem up_l0 (a:List Int) (n s:Nat) (hs:s < 32) (hn:Int.tmod (n:Int) 32=(s:Int)) (Z:List Int):∀ d i k,i + d=s→32 < k →
    girderref00_NatUp.l0 (k + d + 1) (n:Int) a Z 0 ((2:Int) ^ i) (i:Int)=girderref00_NatUp.l1 k a Z 0 ((2:Int) ^ s) 0:=by
  intro d
  induction d with
  | zero =>
    intro i k hi hk
    obtain rfl:i=s:=by omega
    show girderref00_NatUp.l0 (k + 1) _ _ _ _ _ _=_
    simp only [girderref00_NatUp.l0]
    rw [hn,if_neg (Int.lt_irrefl _)]
  | succ d ih =>
    intro i k hi hk
    have hw:wrap64 ((i:Int) + 1)=((i + 1:Nat):Int):=by unfold wrap64;omega
    have e1:IntKind.u64.wrap (2 * (2:Int) ^ i)=(2:Int) ^ (i + 1):=by
      have h1:(2:Nat) ^ (i + 1)≤2 ^ 32:=Nat.pow_le_pow_right (by decide) (by omega)
      have h3:((2 ^ (i + 1):Nat):Int)=(2:Int) ^ (i + 1):=by push_cast;rfl
      have h4:(2:Nat) ^ 32=4294967296:=by decide
      rw [show (2:Int) * 2 ^ i=2 ^ (i + 1) by rw [Int.pow_succ,Int.mul_comm],← h3]
      rw [h4] at h1
      generalize (2:Nat) ^ (i + 1)=v at h1 ⊢
      rw [IntKind.wrap_u64]
      omega
    show girderref00_NatUp.l0 (k + d + 1 + 1) _ _ _ _ _ _=_
    rw [girderref00_NatUp.l0,hn,if_pos (by omega),e1,hw]
    exact ih (i + 1) k (by omega) hk
theorem natUp_f (l:List Int) (hl:Lm l) (n:Nat) (ll:l.length≤68719476736) (hn:n≤1099511627776):∃ r,girderref00_NatUp.f K0 l (n:Int)=some r∧lv r=lv l * (2:Int) ^ n∧Nl r:=by
  obtain ⟨t,h1,h2,h3,h4⟩:=halves_f l hl (by omega) K0 (K0_ge (by omega))
  unfold girderref00_NatUp.f
  rw [h1,Option.bind_some]
  by_cases h0:t=[]
  · subst h0
    rw [if_pos (by simp)]
    refine ⟨[],rfl,?_,Nl.nil⟩
    rw [← h2,nv_nil,lv_nil,Int.zero_mul]
  · have h0':t.length ≠ 0:=fun e=>h0 (List.eq_nil_of_length_eq_zero e)
    have hd:wrap64 (Int.tdiv (n:Int) 32)=((n / 32:Nat):Int):=by rw [Int.tdiv_eq_ediv_of_nonneg (by omega)];unfold wrap64;omega
    have hm:Int.tmod (n:Int) 32=((n % 32:Nat):Int):=by rw [Int.tmod_eq_emod_of_nonneg (by omega)];omega
    rw [if_neg (by omega),hd,if_pos (by omega),if_pos (by omega),Int.toNat_natCast]
    obtain ⟨k,hk⟩:∃ k,K0=k + (n % 32) + 1:=⟨K0 - (n % 32) - 1,by have:=K0_ge (n:=100) (by decide);omega⟩
    have hk2:1000000000000000≤k:=by have:=K0_ge (n:=1000000000001000) (by decide);omega
    have:=up_l0 t n (n % 32) (Nat.mod_lt _ (by decide)) hm (List.replicate (n / 32) 0) (n % 32) 0 k (by omega) (by omega)
    rw [hk]
    obtain ⟨r,e1,e2,e3⟩:=up_l1 t h3.1 (n / 32) (n % 32) (Nat.mod_lt _ (by decide)) (by omega) t.length 0 k (List.replicate (n / 32) 0) 0 (by omega) (by omega) (by simp) (Dg.zeros _) (by omega) (by omega) (by simp [nv_zeros,nv_nil])
    refine ⟨r,this.trans e1,?_,e3⟩
    rw [e2,h2,← pow_bs,← Int.pow_add,Nat.mod_add_div]
theorem cmp_l0 (a b:List Int) (ha:Lm a) (hb:Lm b) (hab:a.length=b.length) (hl:a.length≤1099511627776):∀ n k,n≤a.length→n < k→a.drop n=b.drop n →
    girderref00_NatCmp.l0 k a b ((n:Int) - 1)=some (if lv a < lv b then -1 else if lv b < lv a then 1 else 0):=by
  have eq_of:∀ n:Nat,lv a=lv (a.take n) + ls (a.take n).length * lv (a.drop n):=fun n=>by rw [← lv_app,List.take_append_drop]
  have eq_of':∀ n:Nat,lv b=lv (b.take n) + ls (b.take n).length * lv (b.drop n):=fun n=>by rw [← lv_app,List.take_append_drop]
  intro n
  induction n with
  | zero =>
    intro k _ hk he
    obtain ⟨k,rfl⟩:∃ m,k=m + 1:=⟨k - 1,by omega⟩
    have e:a=b:=by simpa using he
    subst e
    simp only [girderref00_NatCmp.l0]
    rw [if_neg (by omega),if_neg (Int.lt_irrefl _),if_neg (Int.lt_irrefl _)]
  | succ n ih =>
    intro k hn hk he
    obtain ⟨k,rfl⟩:∃ m,k=m + 1:=⟨k - 1,by omega⟩
    have hna:n < a.length:=by omega
    have hnb:n < b.length:=by omega
    have hw:wrap64 (((n + 1:Nat):Int) - 1 - 1)=(n:Int) - 1:=by unfold wrap64;omega
    have hc:((n + 1:Nat):Int) - 1=(n:Int):=by omega
    have i1:(n:Int) ≥ 0:=by omega
    have i2:(n:Int) < (a.length:Int):=by omega
    have i3:(n:Int) < (b.length:Int):=by omega
    rw [hc] at hw ⊢
    simp only [girderref00_NatCmp.l0]
    rw [if_pos i1,if_pos (show (0:Int)≤(n:Int) from i1),if_pos i2,if_pos i3,rd_nat hna,rd_nat hnb,hw]
    have key:∀ (x y:List Int),Lm x→Lm y→∀ hx:n < x.length,∀ hy:n < y.length,x.drop (n + 1)=y.drop (n + 1)→x[n] < y[n]→lv x < lv y:=by
      intro x y dx dy hx hy hd hlt
      have ex:lv x=lv (x.take n) + ls n * x[n] + ls (n + 1) * lv (x.drop (n + 1)):=by
        have h1:=lv_app (x.take (n + 1)) (x.drop (n + 1))
        rw [List.take_append_drop,lv_take_succ hx,List.length_take,Nat.min_eq_left (by omega)] at h1
        exact h1
      have ey:lv y=lv (y.take n) + ls n * y[n] + ls (n + 1) * lv (y.drop (n + 1)):=by
        have h1:=lv_app (y.take (n + 1)) (y.drop (n + 1))
        rw [List.take_append_drop,lv_take_succ hy,List.length_take,Nat.min_eq_left (by omega)] at h1
        exact h1
      have l1:=lv_lt (dx.take n)
      rw [List.length_take,Nat.min_eq_left (by omega)] at l1
      have l2:=lv_nonneg (dy.take n)
      have l3:ls n * (x[n] + 1)≤ls n * y[n]:=Int.mul_le_mul_of_nonneg_left (by omega) (Int.le_of_lt (ls_pos n))
      rw [Int.mul_add,Int.mul_one] at l3
      rw [ex,ey,hd]
      clear ex ey hd ih
      generalize ls (n + 1) * lv (y.drop (n + 1))=u
      generalize ls n * x[n]=v at *
      generalize ls n * y[n]=z at *
      omega
    by_cases h2:a[n] < b[n]
    · rw [if_pos h2,if_pos (key a b ha hb hna hnb he h2)]
    · rw [if_neg h2]
      by_cases h3:a[n] > b[n]
      · have:=key b a hb ha hnb hna he.symm h3
        rw [if_pos h3,if_neg (by clear key ih hw h2 h3;omega),if_pos this]
      · rw [if_neg h3]
        have h:a[n]=b[n]:=by clear key ih hw;omega
        exact ih k (by omega) (by omega) (by rw [List.drop_eq_getElem_cons hna,List.drop_eq_getElem_cons hnb,h,he])
theorem natCmp_f (a b:List Int) (ha:Lm a) (hb:Lm b) (la:a.length≤68719476736) (lb:b.length≤68719476736):girderref00_NatCmp.f K0 a b=some (if lv a < lv b then -1 else if lv b < lv a then 1 else 0):=by
  obtain ⟨t,h1,h2,h3,h4⟩:=ntrim_f a ha (by omega) K0 (K0_ge (by omega))
  obtain ⟨u,g1,g2,g3,g4⟩:=ntrim_f b hb (by omega) K0 (K0_ge (by omega))
  unfold girderref00_NatCmp.f
  rw [h1,g1,Option.bind_some,Option.bind_some,← h2,← g2]
  have hk:t.length < K0:=K0_ge (n:=t.length + 1) (by omega)
  by_cases h:t.length=u.length
  · rw [if_pos (by omega),show wrap64 ((t.length:Int) - 1)=(t.length:Int) - 1 by unfold wrap64;omega]
    exact cmp_l0 t u h3.1 g3.1 h (by omega) t.length K0 (Nat.le_refl _) hk (by rw [List.drop_of_length_le (Nat.le_refl _),List.drop_of_length_le (by omega)])
  · rw [if_neg (by omega)]
    by_cases h5:t.length < u.length
    · have:=Nl.len_lt h3.1 g3 h5
      rw [if_pos (by omega),if_pos this]
    · have:=Nl.len_lt g3.1 h3 (by omega)
      rw [if_neg (by omega),if_neg (by omega),if_pos this]
theorem bits_l0:∀ (n:Nat) (x y:Int) k,0≤y→y < (2:Int) ^ n→n≤64→0≤x→x≤4611686018427387904 - n→n < k→∃ r,girderref00_NatBits.l0 k x y=some r∧x≤r∧r≤x + n∧(0 < y→x < r):=by
  intro n
  induction n with
  | zero =>
    intro x y k y0 y1 _ x0 x1 hk
    obtain ⟨k,rfl⟩:∃ m,k=m + 1:=⟨k - 1,by omega⟩
    have:y=0:=by simp at y1;omega
    simp only [girderref00_NatBits.l0]
    rw [if_neg (by omega)]
    exact ⟨x,rfl,by omega,by omega,fun h=>by omega⟩
  | succ n ih =>
    intro x y k y0 y1 hn x0 x1 hk
    obtain ⟨k,rfl⟩:∃ m,k=m + 1:=⟨k - 1,by omega⟩
    simp only [girderref00_NatBits.l0]
    by_cases h:y > 0
    · have hw:wrap64 (x + 1)=x + 1:=by unfold wrap64;omega
      have hy:y < 18446744073709551616:=by
        have h1:(2:Nat) ^ (n + 1)≤2 ^ 64:=Nat.pow_le_pow_right (by decide) hn
        have h3:((2 ^ (n + 1):Nat):Int)=(2:Int) ^ (n + 1):=by push_cast;rfl
        have h4:(2:Nat) ^ 64=18446744073709551616:=by decide
        omega
      have e2:IntKind.u64.wrap (Int.tdiv y 2)=y / 2:=by rw [Int.tdiv_eq_ediv_of_nonneg y0,IntKind.wrap_u64];omega
      rw [Int.pow_succ] at y1
      rw [if_pos h,hw,e2]
      obtain ⟨r,h1,h2,h3,_⟩:=ih (x + 1) (y / 2) k (by omega) (by omega) (by omega) (by omega) (by omega) (by omega)
      exact ⟨r,h1,by omega,by omega,fun _=>by omega⟩
    · rw [if_neg h]
      exact ⟨x,rfl,by omega,by omega,fun h'=>absurd h' h⟩
theorem natBits_f (a:List Int) (ha:Lm a) (la:a.length≤68719476736):∃ r,girderref00_NatBits.f K0 a=some r∧(r=0 ↔ lv a=0)∧0≤r:=by
  obtain ⟨t,h1,h2,h3,h4⟩:=ntrim_f a ha (by omega) K0 (K0_ge (by omega))
  unfold girderref00_NatBits.f
  rw [h1,Option.bind_some,← h2]
  by_cases h0:t=[]
  · subst h0
    rw [if_pos (by simp)]
    exact ⟨0,rfl,by simp [lv_nil],by omega⟩
  · have h0':t.length ≠ 0:=fun e=>h0 (List.eq_nil_of_length_eq_zero e)
    have hw:wrap64 ((t.length:Int) - 1)=((t.length - 1:Nat):Int):=by unfold wrap64;omega
    have hw2:wrap64 (64 * ((t.length - 1:Nat):Int))=64 * ((t.length - 1:Nat):Int):=by unfold wrap64;omega
    have hlt:t.length - 1 < t.length:=by omega
    have hd:=h3.1.at hlt
    have hnz:t[t.length - 1] ≠ 0:=by
      have:=h3.2 h0
      rwa [List.getLast_eq_getElem] at this
    rw [if_neg (by omega),hw,hw2,if_pos (by omega),if_pos (by omega),rd_nat hlt]
    obtain ⟨r,e1,e2,e3,e4⟩:=bits_l0 64 (64 * ((t.length - 1:Nat):Int)) t[t.length - 1] K0 hd.1 (by rw [show (2:Int) ^ 64=18446744073709551616 by decide];exact hd.2) (by omega) (by omega) (by omega) (K0_ge (n:=65) (by decide))
    have e5:=e4 (by omega)
    refine ⟨r,e1,?_,by omega⟩
    constructor
    · intro h;omega
    · intro h
      exact absurd (h3.zero.1 h) h0
end Go.Proofs.YtmndoelimincdaaGreatDoor.XRf
