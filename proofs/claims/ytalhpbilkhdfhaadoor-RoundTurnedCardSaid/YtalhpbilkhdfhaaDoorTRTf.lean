import Derived.Test.YtalhpbilkhdfhaaDoorTRTa
import Derived.Test.YtalhpbilkhdfhaaDoorTRTc
import Derived.Test.YtalhpbilkhdfhaaDoorTRTd
import Derived.Test.YtalhpbilkhdfhaaDoorTRTe
import Derived.Laws.BitsAllLaws
import Ieee.Arith
namespace Go.Proofs.YtalhpbilkhdfhaaDoor.XBn
open Go Go.RowKit Go.Proofs.YtalhpbilkhdfhaaDoorW.PrintWords Nv
set_option maxRecDepth 100000
theorem rd_nat {l:List Int} {i:Nat} (h:i < l.length):rd l (i:Int)=l[i]:=by
  unfold rd
  rw [Int.toNat_natCast,List.getD_eq_getElem?_getD,List.getElem?_eq_getElem h];rfl
theorem trim_l0 (l:List Int) (hd:Dg l) (hl:l.length≤4611686018427387904):∀ n k,n≤l.length→n < k→∃ r,bignum_trim.l0 k l (n:Int)=some r∧nv r=nv (l.take n)∧Nm r∧r.length≤n:=by
  intro n
  induction n with
  | zero =>
    intro k hn hk
    obtain ⟨k,rfl⟩:∃ m,k=m + 1:=⟨k - 1,by omega⟩
    refine ⟨[],?_,by simp,Nm.nil,by simp⟩
    simp only [bignum_trim.l0]
    rw [if_neg (by omega),if_pos (by omega),if_pos (by omega)];simp
  | succ n ih =>
    intro k hn hk
    obtain ⟨k,rfl⟩:∃ m,k=m + 1:=⟨k - 1,by omega⟩
    have hw:wrap64 (((n + 1:Nat):Int) - 1)=(n:Int):=by unfold wrap64;omega
    simp only [bignum_trim.l0]
    rw [if_pos (by omega),hw,if_pos (by omega),if_pos (by omega),rd_nat (by omega)]
    by_cases h0:l[n]=0
    · rw [if_pos h0]
      obtain ⟨r,h1,h2,h3,h4⟩:=ih k (by omega) (by omega)
      exact ⟨r,h1,by rw [h2,nv_take_succ (by omega),h0];simp,h3,by omega⟩
    · rw [if_neg h0,if_pos (by omega),if_pos (by omega),Int.toNat_natCast]
      refine ⟨_,rfl,rfl,⟨hd.take _,fun h=>?_⟩,by simp;omega⟩
      have e:l.take (n + 1)=l.take n ++ [l[n]]:=List.take_succ_eq_append_getElem (by omega)
      simp only [e,List.getLast_concat]
      exact h0
theorem trim_f (l:List Int) (hd:Dg l) (hl:l.length≤4611686018427387904) (k:Nat) (hk:l.length < k):∃ r,bignum_trim.f k l=some r∧nv r=nv l∧Nm r∧r.length≤l.length:=by
  obtain ⟨r,h1,h2,h3,h4⟩:=trim_l0 l hd hl l.length k (Nat.le_refl _) hk
  exact ⟨r,h1,by rw [h2,List.take_length],h3,h4⟩
theorem words_f (x:Nat) (hx:x < 18446744073709551616) (k:Nat) (hk:2 < k):∃ r,bignum_words.f k (x:Int)=some r∧nv r=x∧Nm r∧r.length≤2:=by
  have hd:Dg [(x:Int) % 4294967296,((x:Int) / 4294967296) % 4294967296]:=by
    simp only [Dg.cons]
    exact ⟨by omega,by omega,Dg.nil⟩
  obtain ⟨r,h1,h2,h3,h4⟩:=trim_f _ hd (by simp) k (by simpa using hk)
  refine ⟨r,?_,?_,h3,by simpa using h4⟩
  · unfold bignum_words.f
    rw [h1];rfl
  · rw [h2];simp only [nv_cons,nv_nil];omega
theorem sw1 {a b c:Int}:(IntKind.u64.wrap (IntKind.u64.wrap (IntKind.u64.wrap a - c) - IntKind.u64.wrap b)) % 4294967296=(a - c - b) % 4294967296:=by simp only [IntKind.wrap_u64];omega
theorem sw2 {a b c:Int} (a0:0≤a) (a1:a < 4294967296) (b0:0≤b) (b1:b < 4294967296) (hc:c=0 ∨ c=1):(IntKind.u64.wrap (IntKind.u64.wrap (IntKind.u64.wrap a - c) - IntKind.u64.wrap b)) / 9223372036854775808=if a - c - b < 0 then 1 else 0:=by simp only [IntKind.wrap_u64];split <;> omega
theorem sw3 {a c:Int}:(IntKind.u64.wrap (IntKind.u64.wrap a - c)) % 4294967296=(a - c - 0) % 4294967296:=by simp only [IntKind.wrap_u64];omega
theorem sw4 {a c:Int} (a0:0≤a) (a1:a < 4294967296) (hc:c=0 ∨ c=1):(IntKind.u64.wrap (IntKind.u64.wrap a - c)) / 9223372036854775808=if a - c - 0 < 0 then 1 else 0:=by simp only [IntKind.wrap_u64];split <;> omega
theorem sub_mod (t:Int):∀ _:-4294967296≤t∧t < 4294967296,t % 4294967296=t + (if t < 0 then 1 else 0) * 4294967296:=fun h=>by split <;> omega
theorem sub_alg {X A B c q s m t ai y:Int} (h:X - c * s=A - B) (e:m=t + q * 4294967296) (ht:t=ai - c - y):X + s * m - q * (4294967296 * s)=A + s * ai - (B + s * y):=by
  subst e ht
  have e1:s * (ai - c - y + q * 4294967296)=s * ai - c * s - s * y + q * (4294967296 * s):=by
    rw [Int.mul_add,Int.mul_sub,Int.mul_sub,Int.mul_comm s c,← Int.mul_assoc s q,Int.mul_comm s q,Int.mul_assoc q s,Int.mul_comm s 4294967296]
  rw [e1]
  generalize c * s=u at *
  generalize s * ai=v
  generalize s * y=z
  generalize q * (4294967296 * s)=r
  omega
theorem sub_l0 (a b:List Int) (ha:Dg a) (hb:Dg b) (hl:a.length≤1099511627776) (hle:nv b≤nv a) (hbl:b.length≤a.length) :
    ∀ d i k (x:List Int) (c:Int),i + d=a.length→d + a.length + 2 < k→x.length=a.length→Dg x→(c=0 ∨ c=1)→nv (x.take i) - c * bs i=nv (a.take i) - nv (b.take i) →
      ∃ r,bignum_sub.l0 k a b x c (i:Int)=some r∧nv r=nv a - nv b∧Nm r∧r.length≤a.length:=by
  intro d
  induction d with
  | zero =>
    intro i k x c hi hk hx hdx hc hinv
    obtain ⟨k,rfl⟩:∃ m,k=m + 1:=⟨k - 1,by omega⟩
    obtain rfl:i=a.length:=by omega
    obtain ⟨r,h1,h2,h3,h4⟩:=trim_f x hdx (by omega) k (by omega)
    simp only [bignum_sub.l0]
    rw [if_neg (by omega),h1]
    have e1:x.take a.length=x:=List.take_of_length_le (by omega)
    have e2:b.take a.length=b:=List.take_of_length_le hbl
    rw [e1,List.take_length,e2] at hinv
    have h5:=nv_lt hdx
    rw [hx] at h5
    have h6:=bs_pos a.length
    have hc0:c=0:=by
      rcases hc with h|h
      · exact h
      · rw [h,Int.one_mul] at hinv;omega
    rw [hc0] at hinv
    exact ⟨r,rfl,by rw [h2];omega,h3,by omega⟩
  | succ d ih =>
    intro i k x c hi hk hx hdx hc hinv
    obtain ⟨k,rfl⟩:∃ m,k=m + 1:=⟨k - 1,by omega⟩
    have hia:i < a.length:=by omega
    have g1:i + 1 + d=a.length:=by omega
    have g2:d + a.length + 2 < k:=by clear ih hinv hc hle hl;omega
    have hw:wrap64 ((i:Int) + 1)=((i + 1:Nat):Int):=by unfold wrap64;omega
    have da:=ha.at hia
    have step:∀ (y:Int),0≤y→y < 4294967296→(nv (b.take (i + 1))=nv (b.take i) + bs i * y) →
        ∀ t,t=a[i] - c - y→∃ r,bignum_sub.l0 k a b (x.set i (t % 4294967296)) (if t < 0 then 1 else 0) ((i + 1:Nat):Int)=some r∧nv r=nv a - nv b∧Nm r∧r.length≤a.length:=by
      intro y h0 h1 hy t ht
      have g3:(x.set i (t % 4294967296)).length=a.length:=by rw [List.length_set];exact hx
      have m0:0≤t % 4294967296:=Int.emod_nonneg _ (by decide)
      have m1:t % 4294967296 < 4294967296:=Int.emod_lt_of_pos _ (by decide)
      have g4:Dg (x.set i (t % 4294967296)):=hdx.set m0 m1
      have hrange:-4294967296≤t∧t < 4294967296:=by clear ih hinv hy g3 g4 m0 m1;omega
      have g5:(if t < 0 then (1:Int) else 0)=0 ∨ (if t < 0 then (1:Int) else 0)=1:=by split <;> simp
      refine ih (i + 1) k (x.set i (t % 4294967296)) (if t < 0 then 1 else 0) g1 g2 g3 g4 g5 ?_
      clear g3 g4 g5
      have hxi:i < (x.set i (t % 4294967296)).length:=by rw [List.length_set,hx];exact hia
      rw [nv_take_succ hxi,take_set_ge (Nat.le_refl _),List.getElem_set_self,nv_take_succ hia,hy,bs_succ]
      exact sub_alg hinv (sub_mod t hrange) ht
    have j1:(i:Int) < (a.length:Int):=by clear step ih hinv hle;omega
    have j2:(0:Int)≤(i:Int):=by clear step ih hinv hle;omega
    have j3:(i:Int) < (x.length:Int):=by clear step ih hinv hle;omega
    have j4:¬ i < b.length→¬ (i:Int) < (b.length:Int):=by clear step ih hinv hle;omega
    have j5:i < b.length→(i:Int) < (b.length:Int):=by clear step ih hinv hle;omega
    clear ih hinv hle g1 g2 hk hi hbl hl
    simp only [bignum_sub.l0]
    rw [if_pos j1,if_pos j2,rd_nat hia,hw,Int.toNat_natCast]
    by_cases hib:i < b.length
    · have db:=hb.at hib
      rw [if_pos (j5 hib),if_pos j3,rd_nat hib]
      have hs:=step b[i] db.1 db.2 (nv_take_succ hib) _ rfl
      have e1:(IntKind.u64.wrap (IntKind.u64.wrap (IntKind.u64.wrap a[i] - c) - IntKind.u64.wrap b[i])) % 4294967296=(a[i] - c - b[i]) % 4294967296:=by clear hs step;exact sw1
      have e2:(IntKind.u64.wrap (IntKind.u64.wrap (IntKind.u64.wrap a[i] - c) - IntKind.u64.wrap b[i])) / 9223372036854775808=if a[i] - c - b[i] < 0 then 1 else 0:=by clear hs step;exact sw2 da.1 da.2 db.1 db.2 hc
      rw [e1,e2]
      exact hs
    · rw [if_neg (j4 hib),if_pos j3]
      have hs:=step 0 (by omega) (by omega) (by rw [List.take_of_length_le (by omega),List.take_of_length_le (by omega)];simp) _ rfl
      have e1:(IntKind.u64.wrap (IntKind.u64.wrap a[i] - c)) % 4294967296=(a[i] - c - 0) % 4294967296:=by clear hs step;exact sw3
      have e2:(IntKind.u64.wrap (IntKind.u64.wrap a[i] - c)) / 9223372036854775808=if a[i] - c - 0 < 0 then 1 else 0:=by clear hs step;exact sw4 da.1 da.2 hc
      rw [e1,e2]
      exact hs
theorem sub_f (a b:List Int) (ha:Dg a) (hb:Nm b) (hl:a.length≤1099511627776) (hle:nv b≤nv a) (k:Nat) (hk:2 * a.length + 4 < k) :
    ∃ r,bignum_sub.f k a b=some r∧nv r=nv a - nv b∧Nm r∧r.length≤a.length:=by
  have hbl:b.length≤a.length:=by
    rcases Nat.lt_or_ge a.length b.length with h|h
    · have:=Nm.len_lt ha hb h;omega
    · exact h
  unfold bignum_sub.f
  rw [if_pos (by omega),if_pos (by omega),Int.toNat_natCast]
  exact sub_l0 a b ha hb.1 hl hle hbl a.length 0 k _ 0 (by omega) (by omega) (by simp) (Dg.zeros _) (Or.inl rfl) (by simp [nv_nil])
theorem cmp_l0 (a b:List Int) (ha:Dg a) (hb:Dg b) (hab:a.length=b.length) (hl:a.length≤1099511627776):∀ n k,n≤a.length→n < k→a.drop n=b.drop n →
    bignum_cmp.l0 k a b ((n:Int) - 1)=some (if nv a < nv b then -1 else if nv b < nv a then 1 else 0):=by
  have eq_of:∀ n:Nat,nv a=nv (a.take n) + bs (a.take n).length * nv (a.drop n):=fun n=>by rw [← nv_app,List.take_append_drop]
  have eq_of':∀ n:Nat,nv b=nv (b.take n) + bs (b.take n).length * nv (b.drop n):=fun n=>by rw [← nv_app,List.take_append_drop]
  intro n
  induction n with
  | zero =>
    intro k _ hk he
    obtain ⟨k,rfl⟩:∃ m,k=m + 1:=⟨k - 1,by omega⟩
    have e:a=b:=by simpa using he
    subst e
    simp only [bignum_cmp.l0]
    rw [if_neg (by omega),if_neg (Int.lt_irrefl _),if_neg (Int.lt_irrefl _)]
  | succ n ih =>
    intro k hn hk he
    obtain ⟨k,rfl⟩:∃ m,k=m + 1:=⟨k - 1,by omega⟩
    have hna:n < a.length:=by omega
    have hnb:n < b.length:=by omega
    have hw:wrap64 (((n + 1:Nat):Int) - 1 - 1)=(n:Int) - 1:=by unfold wrap64;omega
    have hc:((n + 1:Nat):Int) - 1=(n:Int):=by omega
    have i1:(n:Int) ≥ 0:=by omega
    have i2:(n:Int) < (a.length:Int):=by omega
    have i3:(n:Int) < (b.length:Int):=by omega
    rw [hc] at hw ⊢
    simp only [bignum_cmp.l0]
    rw [if_pos i1,if_pos i1,if_pos i2,if_pos i3,rd_nat hna,rd_nat hnb,hw]
    by_cases h:a[n]=b[n]
    · rw [if_pos h]
      exact ih k (by omega) (by omega) (by rw [List.drop_eq_getElem_cons hna,List.drop_eq_getElem_cons hnb,h,he])
    · rw [if_neg h]
      have key:∀ (x y:List Int),Dg x→Dg y→∀ hx:n < x.length,∀ hy:n < y.length,x.drop (n + 1)=y.drop (n + 1)→x[n] < y[n]→nv x < nv y:=by
        intro x y dx dy hx hy hd hlt
        have ex:nv x=nv (x.take n) + bs n * x[n] + bs (n + 1) * nv (x.drop (n + 1)):=by
          have h1:=nv_app (x.take (n + 1)) (x.drop (n + 1))
          rw [List.take_append_drop,nv_take_succ hx,List.length_take,Nat.min_eq_left (by omega)] at h1
          exact h1
        have ey:nv y=nv (y.take n) + bs n * y[n] + bs (n + 1) * nv (y.drop (n + 1)):=by
          have h1:=nv_app (y.take (n + 1)) (y.drop (n + 1))
          rw [List.take_append_drop,nv_take_succ hy,List.length_take,Nat.min_eq_left (by omega)] at h1
          exact h1
        have l1:=nv_lt (dx.take n)
        rw [List.length_take,Nat.min_eq_left (by omega)] at l1
        have l2:=nv_nonneg (dy.take n)
        have l3:bs n * (x[n] + 1)≤bs n * y[n]:=Int.mul_le_mul_of_nonneg_left (by omega) (Int.le_of_lt (bs_pos n))
        rw [Int.mul_add,Int.mul_one] at l3
        rw [ex,ey,hd]
        clear ex ey hd ih
        generalize bs (n + 1) * nv (y.drop (n + 1))=u
        generalize bs n * x[n]=v at *
        generalize bs n * y[n]=z at *
        omega
      by_cases h2:a[n] < b[n]
      · rw [if_pos h2,if_pos (key a b ha hb hna hnb he h2)]
      · have h3:b[n] < a[n]:=by clear key ih hw;omega
        have:=key b a hb ha hnb hna he.symm h3
        rw [if_neg h2,if_neg (by clear key ih hw h2 h3;omega),if_pos this]
theorem cmp_f (a b:List Int) (ha:Nm a) (hb:Nm b) (hl:a.length≤1099511627776) (k:Nat) (hk:a.length < k):bignum_cmp.f k a b=some (if nv a < nv b then -1 else if nv b < nv a then 1 else 0):=by
  unfold bignum_cmp.f
  by_cases h:a.length=b.length
  · rw [if_pos (by omega),show wrap64 ((a.length:Int) - 1)=(a.length:Int) - 1 by unfold wrap64;omega]
    exact cmp_l0 a b ha.1 hb.1 h hl a.length k (Nat.le_refl _) hk (by rw [List.drop_of_length_le (Nat.le_refl _),List.drop_of_length_le (by omega)])
  · rw [if_neg (by omega)]
    by_cases h2:a.length < b.length
    · have:=Nm.len_lt ha.1 hb h2
      rw [if_pos (by omega),if_pos this]
    · have:=Nm.len_lt hb.1 ha (by omega)
      rw [if_neg (by omega),if_neg (by omega),if_pos this]
end Go.Proofs.YtalhpbilkhdfhaaDoor.XBn
namespace Go.Proofs.YtalhpbilkhdfhaaDoor
open Go Nv
set_option maxRecDepth 100000
def nN (l:List Int):Nat:=(nv l).toNat
theorem nN_cast {l:List Int} (h:Dg l):((nN l:Nat):Int)=nv l:=Int.toNat_of_nonneg (nv_nonneg h)
theorem nN_cons {d:Int} {l:List Int} (h:Dg (d :: l)):nN (d :: l)=d.toNat + 4294967296 * nN l:=by
  have h1:=(Dg.cons.1 h).1
  have h2:=nv_nonneg (Dg.cons.1 h).2
  unfold nN
  rw [nv_cons]
  omega
theorem nN_digit:∀ {l:List Int} (_:Dg l) {i:Nat} (hi:i < l.length),l[i].toNat=nN l / 4294967296 ^ i % 4294967296
  | [],_,i,hi=>by simp at hi
  | d :: l,h,i,hi=>by
    have h1:=(Dg.cons.1 h).1
    rw [nN_cons h]
    cases i with
    | zero =>
      rw [Nat.pow_zero,Nat.div_one,List.getElem_cons_zero]
      omega
    | succ i =>
      have hi':i < l.length:=by simpa using hi
      rw [List.getElem_cons_succ,nN_digit (Dg.cons.1 h).2 hi',Nat.pow_succ,Nat.mul_comm (4294967296 ^ i),← Nat.div_div_eq_div_mul]
      congr 2
      omega
theorem nN_lt {l:List Int} (h:Dg l):nN l < 4294967296 ^ l.length:=by
  have h1:=nv_lt h
  have h2:=nN_cast h
  have h3:bs l.length=((4294967296 ^ l.length:Nat):Int):=by unfold bs;rw [Int.natCast_pow];rfl
  rw [h3,← h2] at h1
  exact_mod_cast h1
theorem Dg.drop {l:List Int} (h:Dg l) (n:Nat):Dg (l.drop n):=fun d hd=>h d (List.mem_of_mem_drop hd)
theorem right_digit (x i s:Nat) (hs:s < 32):((x / 4294967296 ^ i % 4294967296 + 4294967296 * (x / 4294967296 ^ (i + 1) % 4294967296)) / 2 ^ s) % 4294967296=x / 2 ^ s / 4294967296 ^ i % 4294967296:=by
  obtain ⟨y,hy⟩:∃ y,x / 4294967296 ^ i=y:=⟨_,rfl⟩
  have e1:x / 4294967296 ^ (i + 1)=y / 4294967296:=by rw [Nat.pow_succ,← Nat.div_div_eq_div_mul,hy]
  have e2:y % 4294967296 + 4294967296 * (y / 4294967296 % 4294967296)=y % (4294967296 * 4294967296):=(Nat.mod_mul ..).symm
  have e3:(4294967296 * 4294967296:Nat)=2 ^ s * (4294967296 * 2 ^ (32 - s)):=by
    rw [Nat.mul_left_comm,← Nat.pow_add,show s + (32 - s)=32 by omega]
  have e4:x / 2 ^ s / 4294967296 ^ i=y / 2 ^ s:=by rw [← hy,Nat.div_div_eq_div_mul,Nat.div_div_eq_div_mul,Nat.mul_comm]
  rw [e1,hy,e2,e3,Nat.mod_mul_right_div_self,Nat.mod_mul_right_mod,e4]
theorem nv_next {r:List Int} {i X:Nat} (hr:Dg r) (hi:i < r.length) (h:nN (r.take i)=X % 4294967296 ^ i) (hd:r[i].toNat=X / 4294967296 ^ i % 4294967296):nN (r.take (i + 1))=X % 4294967296 ^ (i + 1):=by
  have h1:=nv_take_succ hi
  have d:=hr.at hi
  have c1:=nN_cast (hr.take i)
  have c2:=nN_cast (hr.take (i + 1))
  have hb:bs i=((4294967296 ^ i:Nat):Int):=by unfold bs;rw [Int.natCast_pow];rfl
  have hd2:r[i]=((X / 4294967296 ^ i % 4294967296:Nat):Int):=by rw [← hd];exact (Int.toNat_of_nonneg d.1).symm
  rw [← c1,← c2,hb,hd2,h] at h1
  rw [Nat.pow_succ,Nat.mod_mul]
  exact_mod_cast h1
end Go.Proofs.YtalhpbilkhdfhaaDoor
namespace Go.Proofs.YtalhpbilkhdfhaaDoor
open Go Nv
set_option maxRecDepth 100000
def bl (n:Nat):Nat:=if n=0 then 0 else Nat.log2 n + 1
theorem bl_zero:bl 0=0:=rfl
theorem bl_pos {n:Nat} (h:n ≠ 0):bl n=bl (n / 2) + 1:=by
  unfold bl
  rw [if_neg h]
  by_cases h2:n / 2=0
  · rw [if_pos h2]
    have:n=1:=by omega
    subst this
    rfl
  · rw [if_neg h2]
    have:Nat.log2 n=Nat.log2 (n / 2) + 1:=by
      rw [Nat.log2_def,if_pos (by omega)]
    omega
theorem bl_lt (n:Nat):n < 2 ^ bl n:=by
  unfold bl
  split
  · rename_i h;subst h;decide
  · exact Nat.lt_log2_self
theorem bl_le {n:Nat} (h:n ≠ 0):2 ^ (bl n - 1)≤n:=by
  unfold bl
  rw [if_neg h,Nat.add_sub_cancel]
  exact Nat.log2_self_le h
theorem bl_uniq {n k:Nat} (h1:2 ^ k≤n) (h2:n < 2 ^ (k + 1)):bl n=k + 1:=by
  have h0:n ≠ 0:=by have:=Nat.two_pow_pos k;omega
  unfold bl
  rw [if_neg h0]
  have:=(Nat.log2_eq_iff h0).2 ⟨h1,h2⟩
  omega
theorem bl_le_of {n k:Nat} (h:n < 2 ^ k):bl n≤k:=by
  rcases Nat.eq_zero_or_pos n with h0|h0
  · subst h0;rw [bl_zero];omega
  · have h1:=bl_le (n:=n) (by omega)
    rcases Nat.lt_or_ge k (bl n) with h2|h2
    · have h3:2 ^ k≤2 ^ (bl n - 1):=Nat.pow_le_pow_right (by decide) (by omega)
      omega
    · exact h2
theorem bl_top {x t i:Nat} (ht:t ≠ 0) (h:x / 4294967296 ^ i=t):bl x=32 * i + bl t:=by
  have hp:0 < 4294967296 ^ i:=Nat.pow_pos (by decide)
  have e:(4294967296:Nat) ^ i=2 ^ (32 * i):=by rw [Nat.pow_mul]
  have l1:=bl_le ht
  have l2:=bl_lt t
  have l3:bl t ≠ 0:=by rw [bl_pos ht];omega
  have d1:t * 4294967296 ^ i≤x:=by rw [← h];exact Nat.div_mul_le_self ..
  have d2:x < (t + 1) * 4294967296 ^ i:=by rw [← h,Nat.mul_comm];exact Nat.lt_mul_div_succ x hp
  obtain ⟨b,hb⟩:∃ b,bl t=b + 1:=⟨bl t - 1,by omega⟩
  rw [hb] at l1 l2 ⊢
  rw [Nat.add_sub_cancel] at l1
  refine (bl_uniq (k:=32 * i + b) ?_ ?_).trans (by omega)
  · rw [Nat.add_comm,Nat.pow_add,← e]
    exact Nat.le_trans (Nat.mul_le_mul_right _ l1) d1
  · rw [show 32 * i + b + 1=(b + 1) + 32 * i by omega,Nat.pow_add,← e]
    exact Nat.lt_of_lt_of_le d2 (Nat.mul_le_mul_right _ l2)
theorem bit_word (x i:Nat):(x / 4294967296 ^ (i / 32) % 4294967296) / 2 ^ (i % 32) % 2=x / 2 ^ i % 2:=by
  have hs:i % 32 < 32:=Nat.mod_lt _ (by decide)
  have e3:(4294967296:Nat)=2 ^ (i % 32) * (2 * 2 ^ (31 - i % 32)):=by
    rw [Nat.mul_left_comm,← Nat.pow_add,show i % 32 + (31 - i % 32)=31 by omega]
  obtain ⟨y,hy⟩:∃ y,x / 4294967296 ^ (i / 32)=y:=⟨_,rfl⟩
  have e5:(4294967296:Nat) ^ (i / 32) * 2 ^ (i % 32)=2 ^ i:=by
    rw [show (4294967296:Nat)=2 ^ 32 by decide,← Nat.pow_mul,← Nat.pow_add]
    congr 1;omega
  rw [hy]
  have e6:y % 4294967296 / 2 ^ (i % 32) % 2=y / 2 ^ (i % 32) % 2:=by
    have e7:y % 4294967296=y % (2 ^ (i % 32) * (2 * 2 ^ (31 - i % 32))):=congrArg (y % ·) e3
    rw [e7,Nat.mod_mul_right_div_self,Nat.mod_mul_right_mod]
  rw [e6,← hy,Nat.div_div_eq_div_mul,e5]
end Go.Proofs.YtalhpbilkhdfhaaDoor
namespace Go.Proofs.YtalhpbilkhdfhaaDoor.XBn
open Go Go.RowKit Go.Proofs.YtalhpbilkhdfhaaDoorW.PrintWords Nv
set_option maxRecDepth 100000
theorem nv_set {l:List Int} {i:Nat} (h:i < l.length) (d:Int):nv (l.set i d)=nv l + bs i * (d - l[i]):=by
  have h1:=nv_app (l.take (i + 1)) (l.drop (i + 1))
  rw [List.take_append_drop,nv_take_succ h,List.length_take,Nat.min_eq_left (by omega)] at h1
  have hs:i < (l.set i d).length:=by simpa using h
  have h2:=nv_app ((l.set i d).take (i + 1)) ((l.set i d).drop (i + 1))
  rw [List.take_append_drop,nv_take_succ hs,List.length_take,Nat.min_eq_left (by simp;omega),take_set_ge (Nat.le_refl _),List.getElem_set_self,List.drop_set_of_lt (by omega)] at h2
  rw [h1,h2,Int.mul_sub]
  generalize bs (i + 1) * nv (l.drop (i + 1))=u
  generalize bs i * d=v
  generalize bs i * l[i]=w
  omega
theorem mul_bound {a b c r:Int} (a0:0≤a) (a1:a < 4294967296) (b0:0≤b) (b1:b < 4294967296) (c0:0≤c) (c1:c < 4294967296) (r0:0≤r) (r1:r < 4294967296) :
    IntKind.u64.wrap (c + IntKind.u64.wrap (IntKind.u64.wrap (IntKind.u64.wrap a * IntKind.u64.wrap b) + IntKind.u64.wrap r))=c + a * b + r∧0≤c + a * b + r∧(c + a * b + r) / 4294967296 < 4294967296:=by
  have h0:=Int.mul_nonneg a0 b0
  have h1:a * b≤4294967295 * 4294967295:=by
    have e1:a * b≤4294967295 * b:=Int.mul_le_mul_of_nonneg_right (by omega) b0
    have e2:4294967295 * b≤4294967295 * 4294967295:=by omega
    omega
  have ea:IntKind.u64.wrap a=a:=by rw [IntKind.wrap_u64];omega
  have eb:IntKind.u64.wrap b=b:=by rw [IntKind.wrap_u64];omega
  rw [ea,eb]
  generalize a * b=p at *
  simp only [IntKind.wrap_u64]
  omega
theorem mul_alg {N c p r T s q m:Int} (hT:T=c + p + r) (hq:T=4294967296 * q + m):(N + s * (m - r)) + q * (4294967296 * s)=N + c * s + s * p:=by
  have hm:m=c + p + r - 4294967296 * q:=by omega
  subst hm
  rw [show s * (c + p + r - 4294967296 * q - r)=s * (c + (p - 4294967296 * q)) by congr 1;omega,Int.mul_add,Int.mul_sub,Int.mul_comm q,← Int.mul_assoc s,Int.mul_comm s 4294967296,Int.mul_assoc 4294967296 s,Int.mul_comm c s]
  generalize s * c=a
  generalize s * p=b
  generalize s * q=d
  omega
def Post (a b:List Int) (o:Option (List Int)):Prop:=∃ r,o=some r∧nv r=nv a * nv b∧Nm r∧r.length≤a.length + b.length
theorem mul_l1 (a b:List Int) (ha:Dg a) (hb:Dg b) (hl:a.length + b.length≤1099511627776) (i:Nat) (hi:i < a.length) (K:Nat) (V:Int) (Z:List Int)
    (hR:∀ k r,K≤k→Dg r→r.length=a.length + b.length→nv r=V→r.drop (i + 1 + b.length)=Z→Post a b (bignum_mul.l0 k a b r ((i + 1:Nat):Int))) :
    ∀ e j k (r:List Int) (c:Int),j + e=b.length→K + e + 1≤k→Dg r→(hrl:r.length=a.length + b.length)→0≤c→c < 4294967296→(∀ h:i + b.length < r.length,r[i + b.length]=0)→r.drop (i + 1 + b.length)=Z →
      nv r + c * bs (i + j) + bs i * (a[i] * (nv b - nv (b.take j)))=V→Post a b (bignum_mul.l1 k a b r (i:Int) c (j:Int)):=by
  intro e
  induction e with
  | zero =>
    intro j k r c hj hk hd hrl hc0 hc1 hz hZ hV
    obtain ⟨k,rfl⟩:∃ m,k=m + 1:=⟨k - 1,by clear hV hz;omega⟩
    obtain rfl:j=b.length:=by clear hV hz;omega
    have hlt:i + b.length < r.length:=by clear hV hz;omega
    have q1:(0:Int)≤((i + b.length:Nat):Int):=by clear hV hz;omega
    have q2:((i + b.length:Nat):Int) < (r.length:Int):=by clear hV hz;omega
    have q3:K≤k:=Nat.le_of_succ_le_succ hk
    have q4:i + b.length < i + 1 + b.length:=by clear hV hz;omega
    have hw:wrap64 ((i:Int) + (b.length:Int))=((i + b.length:Nat):Int):=by clear hV hz;unfold wrap64;omega
    have hw1:wrap64 ((i:Int) + 1)=((i + 1:Nat):Int):=by clear hV hz hw;unfold wrap64;omega
    have hcm:c % 4294967296=c:=Int.emod_eq_of_lt hc0 hc1
    simp only [bignum_mul.l1]
    rw [if_neg (Int.lt_irrefl _),hw,if_pos q1,if_pos q2,Int.toNat_natCast,hw1,hcm]
    refine hR k (r.set (i + b.length) c) q3 (hd.set hc0 hc1) (by rw [List.length_set];exact hrl) ?_ ?_
    · rw [nv_set hlt,hz hlt,← hV,List.take_length,Int.sub_self,Int.mul_zero,Int.mul_zero,Int.add_zero,Int.sub_zero,Int.mul_comm]
    · rw [List.drop_set_of_lt q4];exact hZ
  | succ e ih =>
    intro j k r c hj hk hd hrl hc0 hc1 hz hZ hV
    obtain ⟨k,rfl⟩:∃ m,k=m + 1:=⟨k - 1,by clear hV hz;omega⟩
    have hjb:j < b.length:=by clear hV hz;omega
    have hij:i + j < r.length:=by clear hV hz;omega
    have p1:(j:Int) < (b.length:Int):=by clear hV hz;omega
    have p2:(0:Int)≤(i:Int):=by clear hV hz;omega
    have p3:(i:Int) < (a.length:Int):=by clear hV hz;omega
    have p4:(0:Int)≤(j:Int):=by clear hV hz;omega
    have p5:(0:Int)≤((i + j:Nat):Int):=by clear hV hz;omega
    have p6:((i + j:Nat):Int) < (r.length:Int):=by clear hV hz;omega
    have g1:j + 1 + e=b.length:=by clear hV hz;omega
    have g2:K + e + 1≤k:=Nat.le_of_succ_le_succ hk
    have g3:i + j ≠ i + b.length:=by clear hV hz;omega
    have g4:i + j < i + 1 + b.length:=by clear hV hz;omega
    have hw:wrap64 ((i:Int) + (j:Int))=((i + j:Nat):Int):=by clear hV hz;unfold wrap64;omega
    have hw1:wrap64 ((j:Int) + 1)=((j + 1:Nat):Int):=by clear hV hz hw;unfold wrap64;omega
    have da:=ha.at hi
    have db:=hb.at hjb
    have dr:=hd.at hij
    obtain ⟨hT,t0,t1⟩:=mul_bound da.1 da.2 db.1 db.2 hc0 hc1 dr.1 dr.2
    simp only [bignum_mul.l1]
    rw [if_pos p1,if_pos p2,if_pos p3,if_pos p4,hw,if_pos p5,if_pos p6,rd_nat hi,rd_nat hjb,rd_nat hij,hT,hw1,Int.toNat_natCast]
    have m0:0≤(c + a[i] * b[j] + r[i + j]) % 4294967296:=Int.emod_nonneg _ (by decide)
    have m1:(c + a[i] * b[j] + r[i + j]) % 4294967296 < 4294967296:=Int.emod_lt_of_pos _ (by decide)
    have m2:0≤(c + a[i] * b[j] + r[i + j]) / 4294967296:=Int.ediv_nonneg t0 (by decide)
    refine ih (j + 1) k _ _ g1 g2 (hd.set m0 m1) (by rw [List.length_set];exact hrl) m2 t1 ?_ ?_ ?_
    · intro h
      rw [List.getElem_set_ne g3]
      exact hz (by rw [List.length_set] at h;exact h)
    · rw [List.drop_set_of_lt g4];exact hZ
    · rw [nv_set hij,← Nat.add_assoc,bs_succ (i + j),mul_alg (c:=c) (p:=a[i] * b[j]) (r:=r[i + j]) rfl (Int.mul_ediv_add_emod _ _).symm,nv_take_succ hjb,bs_add,← hV]
      rw [bs_add,← Int.sub_sub,Int.mul_sub (a[i]) (nv b - nv (b.take j)),Int.mul_sub (bs i)]
      have e1:bs i * (a[i] * (bs j * b[j]))=bs i * bs j * (a[i] * b[j]):=by
        rw [Int.mul_left_comm a[i],Int.mul_assoc]
      rw [e1]
      generalize bs i * bs j * (a[i] * b[j])=u
      generalize bs i * (a[i] * (nv b - nv (b.take j)))=v
      generalize c * (bs i * bs j)=w
      omega
theorem mul_l0 (a b:List Int) (ha:Dg a) (hb:Dg b) (hl:a.length + b.length≤1099511627776):∀ d i k (r:List Int),i + d=a.length→d * (b.length + 3) + (a.length + b.length + 3)≤k→Dg r→r.length=a.length + b.length→nv r=nv (a.take i) * nv b→r.drop (i + b.length)=List.replicate d 0 →
    Post a b (bignum_mul.l0 k a b r (i:Int)):=by
  intro d
  induction d with
  | zero =>
    intro i k r hi hk hd hrl hv _
    obtain rfl:i=a.length:=by clear hv;omega
    obtain ⟨k,rfl⟩:∃ m,k=m + 1:=⟨k - 1,by clear hv;omega⟩
    obtain ⟨o,h1,h2,h3,h4⟩:=trim_f r hd (by clear hv;omega) k (by clear hv;omega)
    simp only [bignum_mul.l0]
    rw [if_neg (Int.lt_irrefl _),h1]
    exact ⟨o,rfl,by rw [h2,hv,List.take_length],h3,by rw [hrl] at h4;exact h4⟩
  | succ d ih =>
    intro i k r hi hk hd hrl hv hz
    rw [Nat.succ_mul] at hk
    obtain ⟨k,rfl⟩:∃ m,k=m + 1:=⟨k - 1,by clear hv hz ih;omega⟩
    have hia:i < a.length:=by clear hv hz ih;omega
    have p1:(i:Int) < (a.length:Int):=by clear hv hz ih;omega
    have hkk:d * (b.length + 3) + (a.length + b.length + 3) + b.length + 1≤k:=by clear hv hz ih;omega
    have hlt:i + b.length < r.length:=by clear hv hz ih;omega
    have g1:i + 1 + d=a.length:=by clear hv hz ih;omega
    have e:i + 1 + b.length=i + b.length + 1:=by clear hv hz ih;omega
    have hc:r[i + b.length] :: r.drop (i + b.length + 1)=0 :: List.replicate d 0:=by rw [← List.drop_eq_getElem_cons hlt,hz,List.replicate_succ]
    obtain ⟨z0,z1⟩:=List.cons.inj hc
    simp only [bignum_mul.l0]
    rw [if_pos p1]
    refine mul_l1 a b ha hb hl i hia (d * (b.length + 3) + (a.length + b.length + 3)) (nv (a.take (i + 1)) * nv b) (List.replicate d 0) (fun k r hk hd hrl hv hz=>ih (i + 1) k r g1 hk hd hrl hv hz) b.length 0 k r 0 (Nat.zero_add _) hkk hd hrl (Int.le_refl _) (by decide) (fun _=>z0) (by rw [e];exact z1) ?_
    rw [hv,nv_take_succ hia,List.take_zero,nv_nil,Int.zero_mul,Int.add_zero,Int.sub_zero,Int.add_mul,Int.mul_assoc]
theorem mul_f (a b:List Int) (ha:Nm a) (hb:Nm b) (hl:a.length + b.length≤1099511627776) (k:Nat) (hk:a.length * (b.length + 3) + (a.length + b.length + 4)≤k):Post a b (bignum_mul.f k a b):=by
  obtain ⟨k,rfl⟩:∃ m,k=m + 1:=⟨k - 1,by omega⟩
  have nilCase:nv a * nv b=0→Post a b (some []):=fun h=>⟨[],rfl,by rw [nv_nil,h],Nm.nil,by simp⟩
  unfold bignum_mul.f
  by_cases h0:a=[]
  · subst h0
    rw [if_pos (by simp)]
    simp only [bignum_mul.j0]
    rw [if_pos trivial]
    exact nilCase (by rw [nv_nil,Int.zero_mul])
  · have ha0:a.length ≠ 0:=fun h=>h0 (List.eq_nil_of_length_eq_zero h)
    rw [if_neg (by omega)]
    by_cases h1:b=[]
    · subst h1
      simp only [bignum_mul.j0]
      rw [if_pos (by simp)]
      exact nilCase (by rw [nv_nil,Int.mul_zero])
    · have hb0:b.length ≠ 0:=fun h=>h1 (List.eq_nil_of_length_eq_zero h)
      have hw:wrap64 ((a.length:Int) + (b.length:Int))=((a.length + b.length:Nat):Int):=by clear hk;unfold wrap64;omega
      simp only [bignum_mul.j0]
      rw [if_neg (by simp;omega),hw,if_pos (by clear hw;omega),Int.toNat_natCast,if_pos (by clear hw hk;omega)]
      refine mul_l0 a b ha.1 hb.1 hl a.length 0 k _ (Nat.zero_add _) (by clear hw;omega) (Dg.zeros _) (List.length_replicate ..) (by rw [nv_zeros,List.take_zero,nv_nil,Int.zero_mul]) ?_
      rw [List.drop_replicate,Nat.zero_add,Nat.add_sub_cancel]
end Go.Proofs.YtalhpbilkhdfhaaDoor.XBn
namespace Go.Proofs.YtalhpbilkhdfhaaDoor.XBn
open Go Go.RowKit Go.Proofs.YtalhpbilkhdfhaaDoorW.PrintWords Go.Proofs.YtalhpbilkhdfhaaDoorW.PrintMore Nv
set_option maxRecDepth 100000
theorem or_add (s x q:Nat) (hx:x < 2 ^ s) (h1:x < 4294967296) (hy:2 ^ s * q < 4294967296):bits .or .u32 (x:Int) ((2 ^ s * q:Nat):Int)=((x + 2 ^ s * q:Nat):Int):=by
  rw [u32_or_nat _ _ h1 hy,Nat.or_comm,← Nat.two_pow_add_eq_or_of_lt hx,Nat.add_comm]
theorem or_zero (x:Nat) (h1:x < 4294967296):bits .or .u32 0 (x:Int)=(x:Int):=by
  have:=u32_or_nat 0 x (by decide) h1
  rw [Nat.zero_or] at this
  exact this
theorem moved (a s:Nat) (ha:a < 4294967296) (hs:s < 32):a * 2 ^ s < 18446744073709551616∧(a * 2 ^ s) % 4294967296=2 ^ s * (a % 2 ^ (32 - s))∧(a * 2 ^ s) / 4294967296 < 2 ^ s∧2 ^ s * (a % 2 ^ (32 - s)) + 2 ^ s≤4294967296:=by
  have e:(4294967296:Nat)=2 ^ s * 2 ^ (32 - s):=by rw [← Nat.pow_add,show s + (32 - s)=32 by omega]
  have hp:=Nat.two_pow_pos s
  have hp2:=Nat.two_pow_pos (32 - s)
  have hle:2 ^ s≤2 ^ 31:=Nat.pow_le_pow_right (by decide) (by omega)
  have h1:a * 2 ^ s≤4294967295 * 2 ^ 31:=Nat.mul_le_mul (by omega) hle
  refine ⟨Nat.lt_of_le_of_lt h1 (by decide),?_,?_,?_⟩
  · rw [Nat.mul_comm a,e,Nat.mul_mod_mul_left]
  · rw [Nat.div_lt_iff_lt_mul (by decide),Nat.mul_comm (2 ^ s)]
    exact Nat.mul_lt_mul_of_pos_right ha hp
  · rw [e,← Nat.mul_succ]
    exact Nat.mul_le_mul_left _ (Nat.succ_le_of_lt (Nat.mod_lt _ hp2))
theorem left_word (x a s:Nat) (hs:s < 32) (x1:x < 2 ^ s) (a1:a < 4294967296) :
    shl .u64 (IntKind.u64.wrap (a:Int)) (s:Int)=((a * 2 ^ s:Nat):Int)∧bits .or .u32 (x:Int) (((a * 2 ^ s:Nat):Int) % 4294967296)=((x + a * 2 ^ s % 4294967296:Nat):Int)∧x + a * 2 ^ s % 4294967296 < 4294967296 ∧
      bits .or .u32 0 (((a * 2 ^ s:Nat):Int) / 4294967296 % 4294967296)=((a * 2 ^ s / 4294967296:Nat):Int)∧a * 2 ^ s / 4294967296 < 2 ^ s∧a * 2 ^ s / 4294967296 < 4294967296:=by
  obtain ⟨h1,h2,h3,h4⟩:=moved a s a1 hs
  have hle:2 ^ s≤2 ^ 31:=Nat.pow_le_pow_right (by decide) (by omega)
  have hw:IntKind.u64.wrap (a:Int)=(a:Int):=by rw [IntKind.wrap_u64];omega
  have e0:((a:Int) * 2 ^ s)=((a * 2 ^ s:Nat):Int):=by rw [Int.natCast_mul,Int.natCast_pow];rfl
  refine ⟨?_,?_,?_,?_,h3,by omega⟩
  · unfold shl
    rw [hw,Int.toNat_natCast,Nat.min_eq_left (by simp [IntKind.bits];omega),e0,IntKind.wrap_u64]
    omega
  · rw [show (((a * 2 ^ s:Nat):Int) % 4294967296)=((a * 2 ^ s % 4294967296:Nat):Int) by omega,h2]
    exact or_add s x _ x1 (by omega) (by omega)
  · rw [h2];omega
  · rw [show (((a * 2 ^ s:Nat):Int) / 4294967296 % 4294967296)=((a * 2 ^ s / 4294967296:Nat):Int) by omega]
    exact or_zero _ (by omega)
theorem left_words (x a s:Nat) (hs:s < 32) (x1:x < 2 ^ s) (a1:a < 4294967296):∃ L H m:Nat,
    bits .or .u32 (x:Int) (shl .u64 (IntKind.u64.wrap (a:Int)) (s:Int) % 4294967296)=(L:Int)∧bits .or .u32 0 (shl .u64 (IntKind.u64.wrap (a:Int)) (s:Int) / 4294967296 % 4294967296)=(H:Int) ∧
      L=x + m∧a * 2 ^ s=4294967296 * H + m∧(L:Int) < 4294967296∧H < 2 ^ s∧(H:Int) < 4294967296:=by
  obtain ⟨q1,q2,q3,q4,q5,q6⟩:=left_word x a s hs x1 a1
  refine ⟨x + a * 2 ^ s % 4294967296,a * 2 ^ s / 4294967296,a * 2 ^ s % 4294967296,?_,?_,rfl,(Nat.div_add_mod ..).symm,?_,q5,?_⟩
  · rw [q1,q2]
  · rw [q1,q4]
  · clear q1 q2 q4;omega
  · clear q1 q2 q4;omega
theorem cast_eq {A s H m:Nat} (h:A * 2 ^ s=4294967296 * H + m):(A:Int) * 2 ^ s=4294967296 * (H:Int) + (m:Int):=by
  have e:((A * 2 ^ s:Nat):Int)=((4294967296 * H + m:Nat):Int):=congrArg _ h
  rw [Int.natCast_mul,Int.natCast_pow,Int.natCast_add,Int.natCast_mul] at e
  exact e
theorem lt_of_w {A:Nat} (h:(A:Int) < 4294967296):A < 4294967296:=by omega
theorem left_alg {N v q m s:Int} (h:v=4294967296 * q + m):N + s * m + 4294967296 * s * q=N + s * v:=by
  subst h
  rw [Int.mul_add,Int.mul_comm 4294967296 s,Int.mul_assoc]
  generalize s * (4294967296 * q)=u
  generalize s * m=z
  omega
theorem left_l0 (a:List Int) (ha:Dg a) (w s:Nat) (hs:s < 32) (hl:a.length + w + 1≤1099511627776):∀ d i k (r:List Int),i + d=a.length→d + (a.length + w + 1) + 2≤k→Dg r→r.length=a.length + w + 1→nv r=nv (a.take i) * (2 ^ s * bs w)→(∀ h:i + w < r.length,r[i + w] < 2 ^ s)→r.drop (i + w + 1)=List.replicate d 0 →
    ∃ o,bignum_left.l0 k a (w:Int) (s:Int) r (i:Int)=some o∧nv o=nv a * (2 ^ s * bs w)∧Nm o∧o.length≤a.length + w + 1:=by
  intro d
  induction d with
  | zero =>
    intro i k r hi hk hd hrl hv _ _
    obtain rfl:i=a.length:=by clear hv;omega
    obtain ⟨k,rfl⟩:∃ m,k=m + 1:=⟨k - 1,by clear hv;omega⟩
    obtain ⟨o,h1,h2,h3,h4⟩:=trim_f r hd (by clear hv;omega) k (by clear hv;omega)
    simp only [bignum_left.l0]
    rw [if_neg (Int.lt_irrefl _),h1]
    exact ⟨o,rfl,by rw [h2,hv,List.take_length],h3,by rw [hrl] at h4;exact h4⟩
  | succ d ih =>
    intro i k r hi hk hd hrl hv hx hz
    obtain ⟨k,rfl⟩:∃ m,k=m + 1:=⟨k - 1,by clear hv hz hx ih;omega⟩
    have hia:i < a.length:=by clear hv hz hx ih;omega
    have hlt:i + w < r.length:=by clear hv hz hx ih;omega
    have hlt2:i + w + 1 < r.length:=by clear hv hz hx ih;omega
    have p1:(i:Int) < (a.length:Int):=by clear hv hz hx ih;omega
    have p2:(0:Int)≤(i:Int):=by clear hv hz hx ih;omega
    have p3:(0:Int)≤(s:Int):=by clear hv hz hx ih;omega
    have p4:(0:Int)≤((i + w:Nat):Int):=by clear hv hz hx ih;omega
    have p5:((i + w:Nat):Int) < (r.length:Int):=by clear hv hz hx ih;omega
    have p6:(0:Int)≤((i + w + 1:Nat):Int):=by clear hv hz hx ih;omega
    have p7:((i + w + 1:Nat):Int) < (r.length:Int):=by clear hv hz hx ih;omega
    have g1:i + 1 + d=a.length:=by clear hv hz hx ih;omega
    have g2:d + (a.length + w + 1) + 2≤k:=by clear hv hz hx ih;omega
    have g3:i + 1 + w=i + w + 1:=by clear hv hz hx ih;omega
    have g4:i + w ≠ i + w + 1:=by clear hv hz hx ih;omega
    have g5:i + w < i + w + 1 + 1:=by clear hv hz hx ih;omega
    have g6:i + w + 1 < i + w + 1 + 1:=by clear hv hz hx ih;omega
    have hw:wrap64 ((i:Int) + (w:Int))=((i + w:Nat):Int):=by clear hv hz hx ih;unfold wrap64;omega
    have hw1:wrap64 ((i:Int) + 1)=((i + 1:Nat):Int):=by clear hv hz hx ih hw;unfold wrap64;omega
    have hw2:wrap64 (((i + w:Nat):Int) + 1)=((i + w + 1:Nat):Int):=by clear hv hz hx ih hw hw1;unfold wrap64;omega
    have hc:r[i + w + 1] :: r.drop (i + w + 1 + 1)=0 :: List.replicate d 0:=by rw [← List.drop_eq_getElem_cons hlt2,hz,List.replicate_succ]
    obtain ⟨z0,z1⟩:=List.cons.inj hc
    have da:=ha.at hia
    have dx:=hd.at hlt
    have hxi:=hx hlt
    obtain ⟨A,hA⟩:∃ A:Nat,a[i]=(A:Int):=⟨a[i].toNat,(Int.toNat_of_nonneg da.1).symm⟩
    obtain ⟨X,hX⟩:∃ X:Nat,r[i + w]=(X:Int):=⟨r[i + w].toNat,(Int.toNat_of_nonneg dx.1).symm⟩
    have hXs:X < 2 ^ s:=by rw [hX] at hxi;exact_mod_cast hxi
    have hA1:A < 4294967296:=lt_of_w (by rw [← hA];exact da.2)
    obtain ⟨L,H,m,q1,q2,q3,q4,q5,q6,q7⟩:=left_words X A s hs hXs hA1
    have hy:i + w + 1 < (r.set (i + w) (L:Int)).length:=by rw [List.length_set];exact hlt2
    have hy0:(r.set (i + w) (L:Int))[i + w + 1]=0:=by rw [List.getElem_set_ne g4];exact z0
    simp only [bignum_left.l0]
    rw [if_pos p1,if_pos p2,if_pos p3,hw,if_pos p4,if_pos p5,Option.bind_some]
    rw [hw2,if_pos p6,if_pos p7,hw1,Int.toNat_natCast,Int.toNat_natCast,rd_nat hlt,rd_nat hia,hA,hX,q1,rd_nat hy,hy0,q2]
    clear q1 q2 hw hw1 hw2
    refine ih (i + 1) k ((r.set (i + w) (L:Int)).set (i + w + 1) (H:Int)) g1 g2 ((hd.set (Int.natCast_nonneg _) q5).set (Int.natCast_nonneg _) q7) (by rw [List.length_set,List.length_set];exact hrl) ?_ ?_ ?_
    · rw [nv_set hy,hy0,nv_set hlt,hX,nv_take_succ hia,hA,hv]
      have e1:(L:Int) - (X:Int)=(m:Int):=by rw [q3,Int.natCast_add];generalize (X:Int)=u;generalize (m:Int)=v;omega
      have e2:(A:Int) * 2 ^ s=4294967296 * (H:Int) + (m:Int):=cast_eq q4
      rw [e1,Int.sub_zero,bs_succ (i + w),left_alg e2,bs_add,Int.add_mul]
      congr 1
      ac_rfl
    · intro h
      have e1:((r.set (i + w) (L:Int)).set (i + w + 1) (H:Int))[i + 1 + w]=(H:Int):=by
        simp only [g3,List.getElem_set_self]
      rw [e1]
      exact_mod_cast q6
    · rw [g3,List.drop_set_of_lt g6,List.drop_set_of_lt g5]
      exact z1
theorem pow_bs (w:Nat):(2:Int) ^ (32 * w)=bs w:=by
  induction w with
  | zero=>rw [bs_zero];rfl
  | succ w ih=>rw [bs_succ,Nat.mul_succ,Int.pow_add,ih,Int.mul_comm];rfl
theorem left_f (a:List Int) (ha:Dg a) (n:Nat) (hn:n≤4294967296) (hl:a.length≤549755813888) (k:Nat) (hk:2 * a.length + n + 8≤k):∃ o,bignum_left.f k a (n:Int)=some o∧nv o=nv a * 2 ^ n∧Nm o∧o.length≤a.length + n / 32 + 1:=by
  unfold bignum_left.f
  by_cases h0:a=[]
  · subst h0
    rw [if_pos (by simp)]
    exact ⟨[],rfl,by rw [nv_nil,Int.zero_mul],Nm.nil,by simp⟩
  · have ha0:a.length ≠ 0:=fun h=>h0 (List.eq_nil_of_length_eq_zero h)
    rw [if_neg (by omega)]
    have e1:Int.tdiv (n:Int) 32=((n / 32:Nat):Int):=by rw [Int.tdiv_eq_ediv_of_nonneg (Int.natCast_nonneg _)];omega
    have e2:Int.tmod (n:Int) 32=((n % 32:Nat):Int):=by rw [Int.tmod_eq_emod_of_nonneg (Int.natCast_nonneg _)];omega
    rw [e1,e2]
    clear e1 e2
    have hs:n % 32 < 32:=Nat.mod_lt _ (by decide)
    have hnn:n=n % 32 + 32 * (n / 32):=by omega
    have hwl:n / 32≤134217728:=by omega
    have hk2:a.length + (a.length + n / 32 + 1) + 2≤k:=by omega
    have e3:wrap64 (IntKind.u64.wrap ((n / 32:Nat):Int))=((n / 32:Nat):Int):=by rw [IntKind.wrap_u64];unfold wrap64;omega
    rw [e3]
    clear e3
    have pw:(2:Int) ^ n=2 ^ (n % 32) * bs (n / 32):=by rw [← pow_bs,← Int.pow_add,← hnn]
    rw [pw]
    clear pw hnn hk
    generalize n % 32=s at *
    generalize n / 32=w at *
    have e4:wrap64 ((a.length:Int) + (w:Int))=((a.length + w:Nat):Int):=by unfold wrap64;omega
    rw [e4]
    clear e4
    have e5:wrap64 (((a.length + w:Nat):Int) + 1)=((a.length + w + 1:Nat):Int):=by unfold wrap64;omega
    rw [e5]
    clear e5
    rw [if_pos (by omega),Int.toNat_natCast,if_pos (by omega)]
    refine left_l0 a ha w s hs (by omega) a.length 0 k _ (Nat.zero_add _) hk2 (Dg.zeros _) (List.length_replicate ..) (by rw [nv_zeros,List.take_zero,nv_nil,Int.zero_mul]) (fun h=>?_) ?_
    · rw [List.getElem_replicate]
      exact Int.pow_pos (by decide)
    · rw [List.drop_replicate]
      congr 1
      omega
end Go.Proofs.YtalhpbilkhdfhaaDoor.XBn
namespace Go.Proofs.YtalhpbilkhdfhaaDoor.XBn
open Go Go.RowKit Go.Proofs.YtalhpbilkhdfhaaDoorW.PrintWords Nv
set_option maxRecDepth 100000
theorem aw0 {c a:Int} (c0:0≤c) (c1:c≤1) (a0:0≤a) (a1:a < 4294967296):IntKind.u64.wrap (c + IntKind.u64.wrap a)=c + a:=by simp only [IntKind.wrap_u64];omega
theorem aw1 {c a b:Int} (c0:0≤c) (c1:c≤1) (a0:0≤a) (a1:a < 4294967296) (b0:0≤b) (b1:b < 4294967296):IntKind.u64.wrap (IntKind.u64.wrap (c + IntKind.u64.wrap a) + IntKind.u64.wrap b)=c + a + b:=by simp only [IntKind.wrap_u64];omega
theorem add_alg {X A B c q s m t ai y:Int} (h:X + c * s=A + B) (e:t=m + 4294967296 * q) (ht:t=c + ai + y):X + s * m + q * (4294967296 * s)=A + s * ai + (B + s * y):=by
  have e1:s * t=s * m + q * (4294967296 * s):=by
    rw [e,Int.mul_add,← Int.mul_assoc s,Int.mul_comm s 4294967296,Int.mul_comm q]
  have e2:s * t=c * s + s * ai + s * y:=by rw [ht,Int.mul_add,Int.mul_add,Int.mul_comm s c]
  omega
theorem add_l0 (a b:List Int) (ha:Dg a) (hb:Dg b) (hl:a.length≤1099511627776) (hbl:b.length≤a.length) :
    ∀ d i k (x:List Int) (c:Int),i + d=a.length→d + a.length + 3 < k→x.length=a.length + 1→Dg x→(0≤c∧c≤1)→nv (x.take i) + c * bs i=nv (a.take i) + nv (b.take i) →
      ∃ r,bignum_add.l0 k a b x c (i:Int)=some r∧nv r=nv a + nv b∧Nm r∧r.length≤a.length + 1:=by
  intro d
  induction d with
  | zero =>
    intro i k x c hi hk hx hdx hc hinv
    obtain ⟨k,rfl⟩:∃ m,k=m + 1:=⟨k - 1,by omega⟩
    obtain rfl:i=a.length:=by omega
    have hcm:c % 4294967296=c:=by omega
    have hlt:a.length < x.length:=by omega
    obtain ⟨r,h1,h2,h3,h4⟩:=trim_f (x.set a.length c) (hdx.set hc.1 (by omega)) (by rw [List.length_set];omega) k (by rw [List.length_set];omega)
    simp only [bignum_add.l0]
    rw [if_neg (by omega),if_pos (by omega),if_pos (by omega),hcm,Int.toNat_natCast,h1]
    have e1:(x.set a.length c).take (a.length + 1)=x.set a.length c:=List.take_of_length_le (by rw [List.length_set];omega)
    have e2:b.take a.length=b:=List.take_of_length_le hbl
    have hlt2:a.length < (x.set a.length c).length:=by rw [List.length_set];exact hlt
    have e3:=nv_take_succ hlt2
    rw [e1,take_set_ge (Nat.le_refl _),List.getElem_set_self] at e3
    rw [List.take_length,e2,Int.mul_comm] at hinv
    exact ⟨r,rfl,by rw [h2,e3,hinv],h3,by rw [List.length_set] at h4;omega⟩
  | succ d ih =>
    intro i k x c hi hk hx hdx hc hinv
    obtain ⟨k,rfl⟩:∃ m,k=m + 1:=⟨k - 1,by omega⟩
    have hia:i < a.length:=by omega
    have g1:i + 1 + d=a.length:=by omega
    have g2:d + a.length + 3 < k:=by clear ih hinv hc hl;omega
    have hw:wrap64 ((i:Int) + 1)=((i + 1:Nat):Int):=by unfold wrap64;omega
    have da:=ha.at hia
    have step:∀ (y:Int),0≤y→y < 4294967296→(nv (b.take (i + 1))=nv (b.take i) + bs i * y) →
        ∀ t,t=c + a[i] + y→∃ r,bignum_add.l0 k a b (x.set i (t % 4294967296)) (t / 4294967296) ((i + 1:Nat):Int)=some r∧nv r=nv a + nv b∧Nm r∧r.length≤a.length + 1:=by
      intro y h0 h1 hy t ht
      have g3:(x.set i (t % 4294967296)).length=a.length + 1:=by rw [List.length_set];exact hx
      have m0:0≤t % 4294967296:=Int.emod_nonneg _ (by decide)
      have m1:t % 4294967296 < 4294967296:=Int.emod_lt_of_pos _ (by decide)
      have g4:Dg (x.set i (t % 4294967296)):=hdx.set m0 m1
      have g5:0≤t / 4294967296∧t / 4294967296≤1:=by clear ih hinv hy g3 g4 m0 m1;omega
      refine ih (i + 1) k (x.set i (t % 4294967296)) (t / 4294967296) g1 g2 g3 g4 g5 ?_
      clear g3 g4 g5
      have hxi:i < (x.set i (t % 4294967296)).length:=by rw [List.length_set,hx];exact Nat.lt_succ_of_lt hia
      rw [nv_take_succ hxi,take_set_ge (Nat.le_refl _),List.getElem_set_self,nv_take_succ hia,hy,bs_succ]
      exact add_alg hinv (Int.emod_add_mul_ediv t 4294967296).symm ht
    have j1:(i:Int) < (a.length:Int):=by clear step ih hinv;omega
    have j2:(0:Int)≤(i:Int):=by clear step ih hinv;omega
    have j3:(i:Int) < (x.length:Int):=by clear step ih hinv;omega
    have j4:¬ i < b.length→¬ (i:Int) < (b.length:Int):=by clear step ih hinv;omega
    have j5:i < b.length→(i:Int) < (b.length:Int):=by clear step ih hinv;omega
    clear ih hinv g1 g2 hk hi hbl hl
    simp only [bignum_add.l0]
    rw [if_pos j1,if_pos j2,rd_nat hia,hw,Int.toNat_natCast]
    by_cases hib:i < b.length
    · have db:=hb.at hib
      rw [if_pos (j5 hib),if_pos j3,rd_nat hib]
      have hs:=step b[i] db.1 db.2 (nv_take_succ hib) _ rfl
      have e1:=aw1 hc.1 hc.2 da.1 da.2 db.1 db.2
      clear step
      rw [e1]
      exact hs
    · rw [if_neg (j4 hib),if_pos j3]
      have hs:=step 0 (by omega) (by omega) (by rw [List.take_of_length_le (by omega),List.take_of_length_le (by omega)];simp) _ rfl
      have e1:=aw0 hc.1 hc.2 da.1 da.2
      clear step
      rw [e1]
      rw [Int.add_zero] at hs
      exact hs
theorem add_f (a b:List Int) (ha:Dg a) (hb:Dg b) (hl:a.length≤1099511627776) (hbl:b.length≤a.length) (k:Nat) (hk:2 * a.length + 4 < k) :
    ∃ r,bignum_add.f k a b=some r∧nv r=nv a + nv b∧Nm r∧r.length≤a.length + 1:=by
  have e:wrap64 ((a.length:Int) + 1)=((a.length + 1:Nat):Int):=by unfold wrap64;omega
  unfold bignum_add.f
  rw [e,if_pos (by omega),Int.toNat_natCast,if_pos (by omega)]
  exact add_l0 a b ha hb hl hbl a.length 0 k _ 0 (by omega) (by omega) (by simp) (Dg.zeros _) ⟨by decide,by decide⟩ (by simp [nv_nil])
end Go.Proofs.YtalhpbilkhdfhaaDoor.XBn
namespace Go.Proofs.YtalhpbilkhdfhaaDoor.XBn
open Go Go.RowKit Go.Proofs.YtalhpbilkhdfhaaDoorW.PrintWords Go.Proofs.YtalhpbilkhdfhaaDoorW.PrintMore Nv
set_option maxRecDepth 100000
theorem or64 (A A':Nat) (hA:A < 4294967296) (hA':A' < 4294967296):bits .or .u64 (IntKind.u64.wrap (A:Int)) (IntKind.u64.wrap (IntKind.u64.wrap (A':Int) * 4294967296))=((A + 4294967296 * A':Nat):Int):=by
  have e1:IntKind.u64.wrap (A:Int)=(A:Int):=by rw [IntKind.wrap_u64];omega
  have e2:IntKind.u64.wrap (A':Int)=(A':Int):=by rw [IntKind.wrap_u64];omega
  have e3:IntKind.u64.wrap ((A':Int) * 4294967296)=((4294967296 * A':Nat):Int):=by rw [IntKind.wrap_u64];omega
  rw [e1,e2,e3,u64_or_nat _ _ (by omega) (by omega)]
  have e4:A ||| 4294967296 * A'=A + 4294967296 * A':=by
    rw [Nat.or_comm,show (4294967296:Nat)=2 ^ 32 by decide,← Nat.two_pow_add_eq_or_of_lt (by simpa using hA),Nat.add_comm]
  rw [e4]
theorem shr64 (v s:Nat) (hs:s < 32):shr .u64 (v:Int) (s:Int)=((v / 2 ^ s:Nat):Int):=by
  unfold shr
  rw [Int.toNat_natCast,Nat.min_eq_left (by simp [IntKind.bits];omega),Int.natCast_ediv,Int.natCast_pow]
  rfl
theorem shr32 (v s:Nat) (hs:s < 32):shr .u32 (v:Int) (s:Int)=((v / 2 ^ s:Nat):Int):=by
  unfold shr
  rw [Int.toNat_natCast,Nat.min_eq_left (by simp [IntKind.bits];omega),Int.natCast_ediv,Int.natCast_pow]
  rfl
theorem word2 (A A' s:Nat) (hA:A < 4294967296) (hA':A' < 4294967296) (hs:s < 32):shr .u64 (bits .or .u64 (IntKind.u64.wrap (A:Int)) (IntKind.u64.wrap (IntKind.u64.wrap (A':Int) * 4294967296))) (s:Int) % 4294967296=(((A + 4294967296 * A') / 2 ^ s % 4294967296:Nat):Int):=by
  rw [or64 A A' hA hA',shr64 _ s hs];rfl
theorem word1 (A s:Nat) (hA:A < 4294967296) (hs:s < 32):shr .u64 (IntKind.u64.wrap (A:Int)) (s:Int) % 4294967296=((A / 2 ^ s % 4294967296:Nat):Int):=by
  have e1:IntKind.u64.wrap (A:Int)=(A:Int):=by rw [IntKind.wrap_u64];omega
  rw [e1,shr64 _ s hs];rfl
theorem dig_at {a:List Int} (ha:Dg a) {w i:Nat} (h:i + w < a.length):∃ A:Nat,a[i + w]=(A:Int)∧A < 4294967296∧A=nN a / 4294967296 ^ w / 4294967296 ^ i % 4294967296:=by
  have d:=ha.at h
  refine ⟨a[i + w].toNat,(Int.toNat_of_nonneg d.1).symm,by omega,?_⟩
  rw [nN_digit ha h,Nat.div_div_eq_div_mul,← Nat.pow_add,Nat.add_comm w i]
theorem nN_set {r:List Int} {i:Nat} {X d:Nat} (hr:Dg r) (hi:i < r.length) (h:nN (r.take i)=X % 4294967296 ^ i) (hd:d=X / 4294967296 ^ i % 4294967296):Dg (r.set i (d:Int))∧nN ((r.set i (d:Int)).take (i + 1))=X % 4294967296 ^ (i + 1):=by
  have hb:d < 4294967296:=by rw [hd];exact Nat.mod_lt _ (by decide)
  have h1:Dg (r.set i (d:Int)):=hr.set (Int.natCast_nonneg _) (by omega)
  refine ⟨h1,nv_next h1 (by rw [List.length_set];exact hi) ?_ ?_⟩
  · rw [take_set_ge (Nat.le_refl i)];exact h
  · rw [List.getElem_set_self,Int.toNat_natCast];exact hd
theorem nN_of_nv {l:List Int} (h:Dg l) {X:Nat}:nv l=(X:Int) ↔ nN l=X:=by
  have:=nN_cast h
  constructor
  · intro e;rw [e] at this;exact_mod_cast this
  · intro e;rw [← this,e]
theorem right_l0 (a:List Int) (ha:Dg a) (w s n X:Nat) (hs:s < 32) (hn:n + w=a.length) (hl:a.length≤1099511627776) (hX:X=nN a / 4294967296 ^ w):∀ d i k (r:List Int),i + d=n→d + n + 2≤k→Dg r→r.length=n→nN (r.take i)=X / 2 ^ s % 4294967296 ^ i →
    ∃ o,bignum_right.l0 k a (w:Int) (s:Int) r (i:Int)=some o∧nv o=((X / 2 ^ s:Nat):Int)∧Nm o∧o.length≤n:=by
  intro d
  induction d with
  | zero =>
    intro i k r hi hk hd hrl hv
    obtain rfl:i=n:=by omega
    obtain ⟨k,rfl⟩:∃ m,k=m + 1:=⟨k - 1,by omega⟩
    obtain ⟨o,h1,h2,h3,h4⟩:=trim_f r hd (by omega) k (by omega)
    simp only [bignum_right.l0]
    rw [if_neg (by omega),h1]
    refine ⟨o,rfl,?_,h3,by rw [hrl] at h4;exact h4⟩
    rw [h2,nN_of_nv hd]
    rw [← hrl,List.take_length] at hv
    rw [hv]
    have hlt:X < 4294967296 ^ r.length:=by
      rw [hX,hrl,Nat.div_lt_iff_lt_mul (Nat.pow_pos (by decide)),← Nat.pow_add,hn]
      exact nN_lt ha
    exact Nat.mod_eq_of_lt (Nat.lt_of_le_of_lt (Nat.div_le_self ..) hlt)
  | succ d ih =>
    intro i k r hi hk hd hrl hv
    obtain ⟨k,rfl⟩:∃ m,k=m + 1:=⟨k - 1,by omega⟩
    have hir:i < r.length:=by omega
    have hia:i + w < a.length:=by omega
    obtain ⟨A,hA,hA1,hA2⟩:=dig_at ha hia
    rw [← hX] at hA2
    have g1:i + 1 + d=n:=by omega
    have g2:d + n + 2≤k:=by omega
    have p1:(i:Int) < (r.length:Int):=by clear hv hA2 ih hX;omega
    have p2:(0:Int)≤((i + w:Nat):Int):=Int.natCast_nonneg _
    have p3:((i + w:Nat):Int) < (a.length:Int):=by clear hv hA2 ih hX;omega
    have p4:(0:Int)≤(s:Int):=Int.natCast_nonneg _
    have p5:(0:Int)≤(i:Int):=Int.natCast_nonneg _
    have p6:(0:Int)≤((i + w + 1:Nat):Int):=Int.natCast_nonneg _
    have hw:wrap64 ((i:Int) + (w:Int))=((i + w:Nat):Int):=by clear hv hA2 ih hX;unfold wrap64;omega
    have hw1:wrap64 ((i:Int) + 1)=((i + 1:Nat):Int):=by clear hv hA2 ih hw hX;unfold wrap64;omega
    have hw2:wrap64 (((i + w:Nat):Int) + 1)=((i + w + 1:Nat):Int):=by clear hv hA2 ih hw hw1 hX;unfold wrap64;omega
    simp only [bignum_right.l0]
    rw [if_pos p1,hw,if_pos p2,if_pos p3,hw2,hw1,rd_nat hia,hA,Int.toNat_natCast]
    clear hw hw1 hw2
    by_cases hm:i + w + 1 < a.length
    · have hm':i + 1 + w < a.length:=by clear hv hA2 ih hX;omega
      obtain ⟨A',hB,hB1,hB2⟩:=dig_at ha hm'
      rw [← hX] at hB2
      have hB':a[i + w + 1]=(A':Int):=by rw [← hB];congr 1;omega
      have p7:((i + w + 1:Nat):Int) < (a.length:Int):=by clear hv hA2 ih hX hB2;omega
      rw [if_pos p7,if_pos p6,if_pos p4,if_pos p5,rd_nat hm,hB',word2 A A' s hA1 hB1 hs]
      have e:(A + 4294967296 * A') / 2 ^ s % 4294967296=X / 2 ^ s / 4294967296 ^ i % 4294967296:=by rw [hA2,hB2];exact right_digit X i s hs
      obtain ⟨q1,q2⟩:=nN_set hd hir hv e
      exact ih (i + 1) k _ g1 g2 q1 (by rw [List.length_set];exact hrl) q2
    · have p7:¬ ((i + w + 1:Nat):Int) < (a.length:Int):=by clear hv hA2 ih hX;omega
      rw [if_neg p7,if_pos p4,if_pos p5,word1 A s hA1 hs]
      have hz:X / 4294967296 ^ (i + 1) % 4294967296=0:=by
        have:X < 4294967296 ^ (i + 1):=by
          rw [hX,Nat.div_lt_iff_lt_mul (Nat.pow_pos (by decide)),← Nat.pow_add,show i + 1 + w=a.length by omega]
          exact nN_lt ha
        rw [Nat.div_eq_of_lt this]
      have e:A / 2 ^ s % 4294967296=X / 2 ^ s / 4294967296 ^ i % 4294967296:=by
        have:=right_digit X i s hs
        rw [hz,Nat.mul_zero,Nat.add_zero,← hA2] at this
        exact this
      obtain ⟨q1,q2⟩:=nN_set hd hir hv e
      exact ih (i + 1) k _ g1 g2 q1 (by rw [List.length_set];exact hrl) q2
theorem right_f (a:List Int) (ha:Dg a) (n:Nat) (hn:n≤4294967296) (hl:a.length≤549755813888) (k:Nat) (hk:2 * a.length + 8≤k):∃ o,bignum_right.f k a (n:Int)=some o∧nv o=((nN a / 2 ^ n:Nat):Int)∧Nm o∧o.length≤a.length:=by
  unfold bignum_right.f
  have e1:Int.tdiv (n:Int) 32=((n / 32:Nat):Int):=by rw [Int.tdiv_eq_ediv_of_nonneg (Int.natCast_nonneg _)];omega
  have e2:Int.tmod (n:Int) 32=((n % 32:Nat):Int):=by rw [Int.tmod_eq_emod_of_nonneg (Int.natCast_nonneg _)];omega
  rw [e1,e2]
  clear e1 e2
  have hs:n % 32 < 32:=Nat.mod_lt _ (by decide)
  have hnn:n=n % 32 + 32 * (n / 32):=by omega
  have hwl:n / 32≤134217728:=by omega
  have e3:wrap64 (IntKind.u64.wrap ((n / 32:Nat):Int))=((n / 32:Nat):Int):=by rw [IntKind.wrap_u64];unfold wrap64;omega
  rw [e3]
  clear e3
  have pw:nN a / 2 ^ n=nN a / 4294967296 ^ (n / 32) / 2 ^ (n % 32):=by
    rw [Nat.div_div_eq_div_mul,show (4294967296:Nat)=2 ^ 32 by decide,← Nat.pow_mul,← Nat.pow_add,Nat.add_comm,← hnn]
  rw [pw]
  clear pw hnn
  generalize n % 32=s at *
  generalize n / 32=w at *
  by_cases hw:a.length≤w
  · rw [if_pos (by omega)]
    refine ⟨[],rfl,?_,Nm.nil,by simp⟩
    have:nN a / 4294967296 ^ w=0:=Nat.div_eq_of_lt (Nat.lt_of_lt_of_le (nN_lt ha) (Nat.pow_le_pow_right (by decide) hw))
    rw [this,nv_nil,Nat.zero_div];rfl
  · rw [if_neg (by omega)]
    obtain ⟨m,hm⟩:∃ m,m + w=a.length:=⟨a.length - w,by omega⟩
    have e4:wrap64 ((a.length:Int) - (w:Int))=(m:Int):=by unfold wrap64;omega
    rw [e4,if_pos (by omega),Int.toNat_natCast,if_pos (by omega)]
    obtain ⟨o,h1,h2,h3,h4⟩:=right_l0 a ha w s m _ hs hm (by omega) rfl m 0 k (List.replicate m 0) (by omega) (by omega) (Dg.zeros _) (by simp) (by
      rw [List.take_zero,Nat.pow_zero,Nat.mod_one]
      unfold nN;rw [nv_nil];rfl)
    exact ⟨o,h1,h2,h3,by omega⟩
theorem length_l0 (a:List Int) (ha:a ≠ []) (hl:a.length≤1099511627776):∀ (b t c k:Nat),bl t=b→c + b≤32→b + 1≤k→bignum_length.l0 k a (c:Int) (t:Int)=some ((32 * (a.length - 1) + c + b:Nat):Int):=by
  intro b
  induction b with
  | zero =>
    intro t c k ht hc hk
    have t0:t=0:=by
      rcases Nat.eq_zero_or_pos t with h|h
      · exact h
      · rw [bl_pos (by omega)] at ht;omega
    obtain ⟨k,rfl⟩:∃ m,k=m + 1:=⟨k - 1,by omega⟩
    have hp:0 < a.length:=List.length_pos_iff.2 ha
    simp only [bignum_length.l0]
    rw [if_pos (by omega)]
    have e1:wrap64 ((a.length:Int) - 1)=((a.length - 1:Nat):Int):=by unfold wrap64;omega
    rw [e1]
    have e2:wrap64 (((a.length - 1:Nat):Int) * 32)=((32 * (a.length - 1):Nat):Int):=by clear e1;unfold wrap64;omega
    rw [e2]
    have e3:wrap64 (((32 * (a.length - 1):Nat):Int) + (c:Int))=((32 * (a.length - 1) + c + 0:Nat):Int):=by clear e1 e2;unfold wrap64;omega
    rw [e3]
  | succ b ih =>
    intro t c k ht hc hk
    have t0:t ≠ 0:=by intro h;rw [h,bl_zero] at ht;omega
    obtain ⟨k,rfl⟩:∃ m,k=m + 1:=⟨k - 1,by omega⟩
    rw [bl_pos t0] at ht
    simp only [bignum_length.l0]
    rw [if_neg (by omega)]
    have e1:wrap64 ((c:Int) + 1)=((c + 1:Nat):Int):=by unfold wrap64;omega
    have e2:(t:Int) / 2=((t / 2:Nat):Int):=by omega
    rw [e1,e2,ih (t / 2) (c + 1) k (by omega) (by omega) (by omega)]
    congr 2;omega
theorem length_f (a:List Int) (ha:Nm a) (hl:a.length≤1099511627776) (k:Nat) (hk:40≤k):bignum_length.f k a=some ((bl (nN a):Nat):Int):=by
  unfold bignum_length.f
  by_cases h0:a=[]
  · subst h0
    rw [if_pos (by simp)]
    have:nN ([]:List Int)=0:=by unfold nN;rw [nv_nil];rfl
    rw [this];rfl
  · have hp:0 < a.length:=List.length_pos_iff.2 h0
    have e1:wrap64 ((a.length:Int) - 1)=((a.length - 1:Nat):Int):=by unfold wrap64;omega
    have hi:a.length - 1 < a.length:=by omega
    rw [if_neg (by omega),e1,if_pos (by omega),if_pos (by omega),rd_nat hi]
    have d:=ha.1.at hi
    have hlast:a[a.length - 1] ≠ 0:=by
      have:=ha.2 h0
      rw [List.getLast_eq_getElem] at this
      exact this
    obtain ⟨t,ht⟩:∃ t:Nat,a[a.length - 1]=(t:Int):=⟨a[a.length - 1].toNat,(Int.toNat_of_nonneg d.1).symm⟩
    have t0:t ≠ 0:=by rw [ht] at hlast;omega
    have tl:t < 4294967296:=by rw [ht] at d;omega
    have hd:=nN_digit ha.1 hi
    rw [ht,Int.toNat_natCast] at hd
    have hlt:nN a / 4294967296 ^ (a.length - 1) < 4294967296:=by
      rw [Nat.div_lt_iff_lt_mul (Nat.pow_pos (by decide))]
      have h1:=nN_lt ha.1
      have h2:4294967296 * 4294967296 ^ (a.length - 1)=4294967296 ^ a.length:=by rw [Nat.mul_comm,← Nat.pow_succ,show (a.length - 1).succ=a.length by omega]
      rw [h2];exact h1
    rw [Nat.mod_eq_of_lt hlt] at hd
    have hb:=bl_top t0 hd.symm
    have bt:bl t≤32:=bl_le_of (by simpa using tl)
    rw [ht,show (0:Int)=((0:Nat):Int) from rfl,length_l0 a h0 hl (bl t) t 0 k rfl (by omega) (by omega),hb]
    congr 2
theorem bit_f (a:List Int) (ha:Dg a) (_hl:a.length≤1099511627776) (i:Nat) (hi:i≤9223372036854775807):bignum_bit.f a (i:Int)=some ((nN a / 2 ^ i % 2:Nat):Int):=by
  unfold bignum_bit.f
  have e1:Int.tdiv (i:Int) 32=((i / 32:Nat):Int):=by rw [Int.tdiv_eq_ediv_of_nonneg (Int.natCast_nonneg _)];omega
  have e2:wrap64 ((i / 32:Nat):Int)=((i / 32:Nat):Int):=by unfold wrap64;omega
  have e3:IntKind.u64.wrap (i:Int)=(i:Int):=by rw [IntKind.wrap_u64];omega
  have e4:Int.tmod (i:Int) 32=((i % 32:Nat):Int):=by rw [Int.tmod_eq_emod_of_nonneg (Int.natCast_nonneg _)];omega
  rw [if_neg (by omega),e1,e2,e3,e4]
  by_cases h:i / 32 < a.length
  · rw [if_neg (by omega),if_pos (by omega),if_pos (by omega),if_pos (by omega),rd_nat h]
    have d:=ha.at h
    have hd:=nN_digit ha h
    obtain ⟨t,ht⟩:∃ t:Nat,a[i / 32]=(t:Int):=⟨a[i / 32].toNat,(Int.toNat_of_nonneg d.1).symm⟩
    have tl:t < 4294967296:=by rw [ht] at d;omega
    rw [ht,Int.toNat_natCast] at hd
    have hs:i % 32 < 32:=Nat.mod_lt _ (by decide)
    rw [ht,shr32 t _ hs]
    obtain ⟨v,hv⟩:∃ v,t / 2 ^ (i % 32)=v:=⟨_,rfl⟩
    have vl:v < 4294967296:=by rw [← hv];exact Nat.lt_of_le_of_lt (Nat.div_le_self ..) tl
    have e5:IntKind.u64.wrap (v:Int)=(v:Int):=by rw [IntKind.wrap_u64];omega
    have e6:=u64_and_nat v 1 (by omega) (by decide)
    rw [hv,e5,show (1:Int)=((1:Nat):Int) from rfl,e6,Nat.and_one_is_mod,← hv,hd,bit_word]
  · rw [if_pos (by omega)]
    have:nN a < 2 ^ i:=by
      have h1:=nN_lt ha
      have h2:(4294967296:Nat) ^ a.length≤2 ^ i:=by
        rw [show (4294967296:Nat)=2 ^ 32 by decide,← Nat.pow_mul]
        exact Nat.pow_le_pow_right (by decide) (by omega)
      omega
    rw [Nat.div_eq_of_lt this];rfl
end Go.Proofs.YtalhpbilkhdfhaaDoor.XBn
namespace GFl
def mg (B r:Nat):Nat:=if r < B then r else (B + r % B) * 2 ^ (r / B - 1)
def ulp (B r:Nat):Nat:=2 ^ (r / B - 1)
theorem ulp_pos (B r:Nat):0 < ulp B r:=Nat.two_pow_pos _
theorem mg_zero (B:Nat) (hB:0 < B):mg B 0=0:=by simp [mg,hB]
theorem mg_eq (B s t:Nat) (ht:t < B):mg B ((s + 1) * B + t)=(B + t) * 2 ^ s:=by
  have hB:0 < B:=by omega
  have h1:((s + 1) * B + t) % B=t:=by rw [Nat.mul_comm,Nat.mul_add_mod,Nat.mod_eq_of_lt ht]
  have h2:((s + 1) * B + t) / B=s + 1:=by
    rw [Nat.mul_comm,Nat.mul_add_div hB,Nat.div_eq_of_lt ht]
  have h3:¬ (s + 1) * B + t < B:=by rw [Nat.succ_mul];omega
  unfold mg
  rw [if_neg h3,h1,h2];rfl
theorem mg_small {B r:Nat} (h:r < B):mg B r=r:=by simp [mg,h]
theorem rung_split {B r:Nat} (hB:0 < B) (h:B≤r):∃ s t,t < B∧r=(s + 1) * B + t:=by
  refine ⟨r / B - 1,r % B,Nat.mod_lt _ hB,?_⟩
  have h1:1≤r / B:=(Nat.one_le_div_iff hB).2 h
  rw [Nat.sub_add_cancel h1,Nat.mul_comm]
  exact (Nat.div_add_mod r B).symm
theorem ulp_eq (B s t:Nat) (ht:t < B):ulp B ((s + 1) * B + t)=2 ^ s:=by
  have hB:0 < B:=by omega
  have h2:((s + 1) * B + t) / B=s + 1:=by
    rw [Nat.mul_comm,Nat.mul_add_div hB,Nat.div_eq_of_lt ht]
  unfold ulp;rw [h2];rfl
theorem ulp_small {B r:Nat} (h:r < B):ulp B r=1:=by
  unfold ulp;rw [Nat.div_eq_of_lt h]
theorem mg_succ (B r:Nat) (hB:0 < B):mg B (r + 1)=mg B r + ulp B r:=by
  by_cases h:r < B
  · rw [ulp_small h,mg_small h]
    by_cases h':r + 1 < B
    · rw [mg_small h']
    · have e:r + 1=(0 + 1) * B + 0:=by omega
      rw [e,mg_eq B 0 0 hB];omega
  · obtain ⟨s,t,ht,rfl⟩:=rung_split hB (by omega:B≤r)
    rw [ulp_eq B s t ht,mg_eq B s t ht]
    by_cases h':t + 1 < B
    · rw [Nat.add_assoc,mg_eq B s (t + 1) h',← Nat.add_assoc,Nat.succ_mul (B + t)]
    · have e:(s + 1) * B + t + 1=(s + 1 + 1) * B + 0:=by rw [Nat.succ_mul (s + 1)];omega
      rw [e,mg_eq B (s + 1) 0 hB,Nat.pow_succ]
      have:B + t + 1=B * 2:=by omega
      rw [← Nat.succ_mul,Nat.succ_eq_add_one,this,Nat.add_zero,Nat.mul_assoc,Nat.mul_comm 2]
theorem mg_lt_succ (B r:Nat) (hB:0 < B):mg B r < mg B (r + 1):=by
  rw [mg_succ B r hB];have:=ulp_pos B r;omega
theorem mg_mono {B r r':Nat} (hB:0 < B) (h:r≤r'):mg B r≤mg B r':=by
  obtain ⟨k,rfl⟩:=Nat.exists_eq_add_of_le h
  induction k with
  | zero=>exact Nat.le_refl _
  | succ k ih=>exact Nat.le_trans (ih (by omega)) (Nat.le_of_lt (mg_lt_succ B (r + k) hB))
theorem mg_strict {B r r':Nat} (hB:0 < B) (h:r < r'):mg B r < mg B r' :=
  Nat.lt_of_lt_of_le (mg_lt_succ B r hB) (mg_mono hB h)
theorem mg_le_iff {B r r':Nat} (hB:0 < B):mg B r≤mg B r' ↔ r≤r':=by
  constructor
  · intro h
    rcases Nat.lt_or_ge r' r with h'|h'
    · have:=mg_strict hB h';omega
    · exact h'
  · exact mg_mono hB
theorem mg_lt_iff {B r r':Nat} (hB:0 < B):mg B r < mg B r' ↔ r < r':=by
  have:=mg_le_iff (r:=r') (r':=r) hB
  omega
theorem mg_inj {B r r':Nat} (hB:0 < B) (h:mg B r=mg B r'):r=r' :=
  Nat.le_antisymm ((mg_le_iff hB).1 (Nat.le_of_eq h)) ((mg_le_iff hB).1 (Nat.le_of_eq h.symm))
theorem le_mg (B r:Nat) (hB:0 < B):r≤mg B r:=by
  induction r with
  | zero=>omega
  | succ r ih=>rw [mg_succ B r hB];have:=ulp_pos B r;omega
structure IsRn (B N D r:Nat):Prop where
  up:2 * N≤(mg B r + mg B (r + 1)) * D
  upe:2 * N=(mg B r + mg B (r + 1)) * D→r % 2=0
  dn:∀ q,r=q + 1→(mg B q + mg B r) * D≤2 * N
  dne:∀ q,r=q + 1→(mg B q + mg B r) * D=2 * N→r % 2=0
theorem mid_mono {B q q':Nat} (hB:0 < B) (h:q≤q'):mg B q + mg B (q + 1)≤mg B q' + mg B (q' + 1) :=
  Nat.add_le_add (mg_mono hB h) (mg_mono hB (by omega))
theorem IsRn.exact {B r D:Nat} (hB:0 < B) (hD:0 < D):IsRn B (mg B r * D) D r:=by
  have h1:=mg_lt_succ B r hB
  have e:2 * (mg B r * D)=(mg B r + mg B r) * D:=by rw [← Nat.mul_assoc,Nat.two_mul]
  refine ⟨?_,?_,?_,?_⟩
  · rw [e];exact Nat.mul_le_mul_right _ (by omega)
  · intro h;rw [e] at h;have:=Nat.eq_of_mul_eq_mul_right hD h;omega
  · rintro q rfl
    have:=mg_lt_succ B q hB
    rw [e];exact Nat.mul_le_mul_right _ (by omega)
  · rintro q rfl h
    have:=mg_lt_succ B q hB
    rw [e] at h;have:=Nat.eq_of_mul_eq_mul_right hD h;omega
theorem IsRn.mono {B N D r N' D' r':Nat} (hB:0 < B) (hD:0 < D) (hD':0 < D') (h:IsRn B N D r) (h':IsRn B N' D' r') (le:N * D'≤N' * D):r≤r':=by
  rcases Nat.lt_or_ge r' r with hlt|hge
  · exfalso
    obtain ⟨q,rfl⟩:∃ q,r=q + 1:=⟨r - 1,by omega⟩
    have a:=h.dn q rfl
    have b:=h'.up
    have m:=mid_mono hB (show r'≤q by omega)
    have a':(mg B q + mg B (q + 1)) * D * D'≤2 * N * D':=Nat.mul_le_mul_right _ a
    have b':2 * N' * D≤(mg B r' + mg B (r' + 1)) * D' * D:=Nat.mul_le_mul_right _ b
    have c':(mg B r' + mg B (r' + 1)) * D' * D≤(mg B q + mg B (q + 1)) * D * D':=by
      rw [Nat.mul_assoc,Nat.mul_assoc,Nat.mul_comm D' D];exact Nat.mul_le_mul_right _ m
    have d':2 * N * D'≤2 * N' * D:=by rw [Nat.mul_assoc,Nat.mul_assoc];exact Nat.mul_le_mul_left _ le
    have e1:(mg B q + mg B (q + 1)) * D * D'=2 * N * D':=by omega
    have e2:2 * N' * D=(mg B r' + mg B (r' + 1)) * D' * D:=by omega
    have f1:=h.dne q rfl (Nat.eq_of_mul_eq_mul_right hD' e1)
    have f2:=h'.upe (Nat.eq_of_mul_eq_mul_right hD e2)
    have e3:(mg B r' + mg B (r' + 1)) * (D * D')=(mg B q + mg B (q + 1)) * (D * D'):=by
      rw [← Nat.mul_assoc,← Nat.mul_assoc,Nat.mul_assoc _ D D',Nat.mul_comm D D',← Nat.mul_assoc,e1]
      omega
    have e4:=Nat.eq_of_mul_eq_mul_right (Nat.mul_pos hD hD') e3
    rcases Nat.lt_or_ge r' q with h1|h1
    · have:=mg_strict hB h1
      have:=mg_strict hB (show r' + 1 < q + 1 by omega)
      omega
    · omega
  · exact hge
theorem IsRn.unique {B N D r r':Nat} (hB:0 < B) (hD:0 < D) (h:IsRn B N D r) (h':IsRn B N D r'):r=r' :=
  Nat.le_antisymm (h.mono hB hD hD h' (Nat.le_refl _)) (h'.mono hB hD hD h (Nat.le_refl _))
theorem IsRn.scale {B N D r:Nat} {c:Nat} (hc:0 < c):IsRn B (N * c) (D * c) r ↔ IsRn B N D r:=by
  have e:∀ x:Nat,x * (D * c)=x * D * c:=fun x=>by rw [Nat.mul_assoc]
  have e2:2 * (N * c)=2 * N * c:=by rw [Nat.mul_assoc]
  constructor
  · rintro ⟨a,b,d,f⟩
    refine ⟨?_,?_,?_,?_⟩
    · rw [e,e2] at a;exact Nat.le_of_mul_le_mul_right a hc
    · intro h;apply b;rw [e,e2,h]
    · intro q hq;have:=d q hq;rw [e,e2] at this;exact Nat.le_of_mul_le_mul_right this hc
    · intro q hq h;apply f q hq;rw [e,e2,h]
  · rintro ⟨a,b,d,f⟩
    refine ⟨?_,?_,?_,?_⟩
    · rw [e,e2];exact Nat.mul_le_mul_right _ a
    · intro h;rw [e,e2] at h;exact b (Nat.eq_of_mul_eq_mul_right hc h)
    · intro q hq;rw [e,e2];exact Nat.mul_le_mul_right _ (d q hq)
    · intro q hq h;rw [e,e2] at h;exact f q hq (Nat.eq_of_mul_eq_mul_right hc h)
theorem IsRn.cross {B N D N' D' r:Nat} (hD:0 < D) (hD':0 < D') (h:IsRn B N D r) (e:N * D'=N' * D):IsRn B N' D' r:=by
  have h1:=(IsRn.scale (B:=B) (r:=r) (N:=N) (D:=D) hD').2 h
  rw [e,Nat.mul_comm D D'] at h1
  exact (IsRn.scale hD).1 h1
theorem IsRn.zero {B D:Nat} (hB:0 < B) (hD:0 < D):IsRn B 0 D 0:=by
  have:=IsRn.exact (B:=B) (r:=0) hB hD
  rwa [mg_zero B hB,Nat.zero_mul] at this
theorem IsRn.of_floor {B N D r:Nat} (hB:0 < B) (lo:mg B r * D≤N) (hi:N < mg B (r + 1) * D) (c:Bool)
    (hc:c=(decide ((mg B r + mg B (r + 1)) * D < 2 * N) || decide ((mg B r + mg B (r + 1)) * D=2 * N) && decide (r % 2=1))):IsRn B N D (r + c.toNat):=by
  have a1:=Nat.add_mul (mg B r) (mg B (r + 1)) D
  cases c with
  | false =>
    simp only [Bool.false_eq,Bool.or_eq_false_iff,decide_eq_false_iff_not,Bool.and_eq_false_iff] at hc
    obtain ⟨h1,h2⟩:=hc
    refine ⟨by simp;omega,?_,?_,?_⟩
    · simp only [Bool.toNat_false,Nat.add_zero];intro h;rcases h2 with h2|h2 <;> omega
    · simp only [Bool.toNat_false,Nat.add_zero]
      rintro q rfl
      have:=Nat.mul_le_mul_right D (Nat.le_of_lt (mg_lt_succ B q hB))
      rw [Nat.add_mul];omega
    · simp only [Bool.toNat_false,Nat.add_zero]
      rintro q rfl h
      have hD:0 < D:=by
        rcases Nat.eq_zero_or_pos D with h0|h0
        · subst h0;simp at hi
        · exact h0
      have:=Nat.mul_lt_mul_of_pos_right (mg_lt_succ B q hB) hD
      rw [Nat.add_mul] at h;omega
  | true =>
    have hc':(mg B r + mg B (r + 1)) * D < 2 * N ∨ ((mg B r + mg B (r + 1)) * D=2 * N∧r % 2=1):=by simpa using hc.symm
    have hD:0 < D:=by
      rcases Nat.eq_zero_or_pos D with h0|h0
      · subst h0;simp at hi
      · exact h0
    have g:=Nat.mul_lt_mul_of_pos_right (mg_lt_succ B (r + 1) hB) hD
    refine ⟨?_,?_,?_,?_⟩
    · simp only [Bool.toNat_true];rw [Nat.add_mul];omega
    · simp only [Bool.toNat_true];rw [Nat.add_mul];intro h;omega
    · simp only [Bool.toNat_true];intro q hq;obtain rfl:r=q:=by omega
      omega
    · simp only [Bool.toNat_true];intro q hq h;obtain rfl:r=q:=by omega
      omega
end GFl
namespace GFl
open Ieee
theorem cut_even (neg:Bool) (n drop:Nat):Toward.even.cut neg n drop =
    n / 2 ^ drop + (decide (2 ^ drop < 2 * (n % 2 ^ drop)) || decide (2 ^ drop=2 * (n % 2 ^ drop)) && decide (n / 2 ^ drop % 2=1)).toNat:=by
  have big:∀ k,n.log2 + 2≤k→2 * n < 2 ^ k:=by
    intro k hk
    have h1:n < 2 ^ (n.log2 + 1):=Nat.lt_log2_self
    have h2:2 ^ (n.log2 + 2)≤2 ^ k:=Nat.pow_le_pow_right (by omega) hk
    have h3:2 ^ (n.log2 + 2)=2 ^ (n.log2 + 1) * 2:=Nat.pow_succ ..
    omega
  have zero:∀ k,n.log2 + 2≤k→n / 2 ^ k + (decide (2 ^ k < 2 * (n % 2 ^ k)) || decide (2 ^ k=2 * (n % 2 ^ k)) && decide (n / 2 ^ k % 2=1)).toNat=0:=by
    intro k hk
    have:=big k hk
    have e1:n / 2 ^ k=0:=Nat.div_eq_of_lt (by omega)
    have e2:n % 2 ^ k=n:=Nat.mod_eq_of_lt (by omega)
    rw [e1,e2]
    have h1:¬ 2 ^ k < 2 * n:=by omega
    simp [h1]
  have unf:∀ g,g=1 <<< min drop (n.log2 + 2)→Toward.even.cut neg n drop=n / g + (decide (g < 2 * (n % g)) || decide (g=2 * (n % g)) && decide (n / g % 2=1)).toNat:=by
    intro g hg
    subst hg
    unfold Toward.cut
    rfl
  rw [unf _ rfl,Nat.one_shiftLeft]
  rcases Nat.le_total drop (n.log2 + 2) with h|h
  · rw [Nat.min_eq_left h]
  · rw [Nat.min_eq_right h,zero _ (Nat.le_refl _),zero _ h]
structure Good (f:Format):Prop where
  e:2≤f.exponentBits
  p:2≤f.fractionBits
theorem good_double:Good double:=⟨by decide,by decide⟩
section
variable {f:Format}
theorem binade_pos (f:Format):0 < f.binade:=Nat.two_pow_pos _
theorem width_eq (f:Format):2 ^ f.width=2 * f.signWeight:=by
  unfold Format.width Format.signWeight
  rw [Nat.add_assoc,Nat.add_comm 1,Nat.pow_succ,Nat.mul_comm]
def sgn (f:Format) (x:Nat):Bool:=decide (f.signWeight≤x)
def rung (f:Format) (x:Nat):Nat:=x % f.signWeight
theorem sgn_eq {x:Nat} (h:x < 2 ^ f.width):(x / f.signWeight % 2 == 1)=sgn f x:=by
  rw [width_eq] at h
  have hs:0 < f.signWeight:=Nat.two_pow_pos _
  unfold sgn
  by_cases h1:f.signWeight≤x
  · have:x / f.signWeight=1:=by
      have a:1≤x / f.signWeight:=(Nat.one_le_div_iff hs).2 h1
      have b:x / f.signWeight < 2:=Nat.div_lt_of_lt_mul (by omega)
      omega
    simp [this,h1]
  · have:x / f.signWeight=0:=Nat.div_eq_of_lt (by omega)
    simp [this,h1]
theorem word_split {x:Nat} (h:x < 2 ^ f.width):x=f.word (sgn f x) (rung f x):=by
  rw [width_eq] at h
  unfold Format.word sgn rung
  by_cases h1:f.signWeight≤x
  · simp only [h1,decide_true,if_true]
    rw [Nat.mod_eq_sub_mod h1,Nat.mod_eq_of_lt (by omega)];omega
  · simp only [h1,decide_false,Bool.false_eq_true,if_false]
    rw [Nat.mod_eq_of_lt (by omega)]
theorem rung_word {s:Bool} {r:Nat} (h:r < f.signWeight):rung f (f.word s r)=r:=by
  unfold rung Format.word
  cases s
  · simp [Nat.mod_eq_of_lt h]
  · simp [Nat.mod_eq_of_lt h]
theorem sgn_word {s:Bool} {r:Nat} (h:r < f.signWeight):sgn f (f.word s r)=s:=by
  unfold sgn Format.word
  cases s
  · simp;omega
  · simp
theorem read_num {x:Nat} (h:x < 2 ^ f.width) (hr:rung f x < f.infRung) :
    ∃ m e,f.read x=.number (sgn f x) m e∧f.leastPlace≤e∧m * 2 ^ (e - f.leastPlace).toNat=mg f.binade (rung f x)∧m < 2 * f.binade∧(m=0 ↔ rung f x=0):=by
  unfold rung at hr
  unfold Format.read
  simp only [sgn_eq h]
  by_cases h1:x % f.signWeight < f.binade
  · refine ⟨x % f.signWeight,f.leastPlace,by simp [h1],Int.le_refl _,?_,by omega,Iff.rfl⟩
    unfold rung
    rw [mg_small h1];simp
  · refine ⟨f.binade + x % f.signWeight % f.binade,f.leastPlace + (x % f.signWeight / f.binade - 1:Nat),by simp [h1,hr],by omega,?_,?_,?_⟩
    · have e:(f.leastPlace + (x % f.signWeight / f.binade - 1:Nat) - f.leastPlace).toNat=x % f.signWeight / f.binade - 1:=by omega
      rw [e];unfold rung mg;rw [if_neg h1]
    · have:=Nat.mod_lt (x % f.signWeight) (binade_pos f);omega
    · have:=binade_pos f;unfold rung;constructor <;> intro h2 <;> omega
theorem read_inf {x:Nat} (h:x < 2 ^ f.width) (hr:rung f x=f.infRung) (g:Good f):f.read x=.infinity (sgn f x):=by
  unfold rung at hr
  have hb:f.binade≤f.infRung:=by
    unfold Format.infRung
    have:2 ^ 2≤2 ^ f.exponentBits:=Nat.pow_le_pow_right (by omega) g.e
    exact Nat.le_mul_of_pos_left _ (by omega)
  unfold Format.read
  simp only [sgn_eq h,hr]
  rw [if_neg (by omega),if_neg (by omega)];rfl
theorem read_nan {x:Nat} (h:x < 2 ^ f.width) (hr:f.infRung < rung f x) (g:Good f):f.read x=.nan (sgn f x) (rung f x - f.infRung):=by
  have hb:f.binade≤f.infRung:=by
    unfold Format.infRung
    have:2 ^ 2≤2 ^ f.exponentBits:=Nat.pow_le_pow_right (by omega) g.e
    exact Nat.le_mul_of_pos_left _ (by omega)
  unfold rung at hr ⊢
  unfold Format.read
  simp only [sgn_eq h]
  rw [if_neg (by omega),if_neg (by omega),if_neg (by omega)]
theorem nearest_rn (g:Good f) (neg:Bool) (mag:Nat) (place:Int) :
    ∃ r,IsRn f.binade (mag * 2 ^ (place - f.leastPlace).toNat) (2 ^ (f.leastPlace - place).toNat) r∧f.nearest neg mag place=f.word neg (min r f.infRung):=by
  have hB:=binade_pos f
  by_cases h0:mag=0
  · subst h0
    refine ⟨0,?_,?_⟩
    · rw [Nat.zero_mul];exact IsRn.zero hB (Nat.two_pow_pos _)
    · simp [Format.nearest]
  have hlo:=Nat.log2_self_le h0
  have hhi:mag < 2 ^ (mag.log2 + 1):=Nat.lt_log2_self
  have hBp:f.binade=2 ^ f.fractionBits:=rfl
  have h2B:2 * f.binade=2 ^ (f.fractionBits + 1):=by rw [Nat.pow_succ,hBp,Nat.mul_comm]
  have heven:f.binade % 2=0:=by
    have:f.fractionBits=(f.fractionBits - 1) + 1:=by have:=g.p;omega
    rw [hBp,this,Nat.pow_succ];omega
  unfold Format.nearest
  rw [if_neg h0]
  dsimp only
  by_cases hc:place + mag.log2 - f.fractionBits≤f.leastPlace
  ·
    rw [Int.max_eq_right hc]
    generalize hN:mag * 2 ^ (place - f.leastPlace).toNat=N
    generalize hd:(f.leastPlace - place).toNat=d
    rw [Nat.shiftLeft_eq,hN,cut_even]
    have hNlt:N < 2 * f.binade * 2 ^ d:=by
      rw [h2B]
      subst hN
      by_cases hp:f.leastPlace≤place
      · have d0:d=0:=by omega
        subst d0
        have:mag * 2 ^ (place - f.leastPlace).toNat < 2 ^ (mag.log2 + 1) * 2 ^ (place - f.leastPlace).toNat:=Nat.mul_lt_mul_of_pos_right hhi (Nat.two_pow_pos _)
        rw [← Nat.pow_add] at this
        have l:2 ^ (mag.log2 + 1 + (place - f.leastPlace).toNat)≤2 ^ (f.fractionBits + 1):=Nat.pow_le_pow_right (by omega) (by omega)
        omega
      · have e0:(place - f.leastPlace).toNat=0:=by omega
        rw [e0,Nat.pow_zero,Nat.mul_one,← Nat.pow_add]
        exact Nat.lt_of_lt_of_le hhi (Nat.pow_le_pow_right (by omega) (by omega))
    have hD:0 < 2 ^ d:=Nat.two_pow_pos _
    generalize 2 ^ d=D at *
    have hq:N / D < 2 * f.binade:=Nat.div_lt_of_lt_mul (by rw [Nat.mul_comm];exact hNlt)
    have hdm:=Nat.div_add_mod N D
    have hml:=Nat.mod_lt N hD
    generalize hq':N / D=q at *
    generalize N % D=t at *
    have m0:mg f.binade q=q:=by
      by_cases hs:q < f.binade
      · exact mg_small hs
      · have e:q=(0 + 1) * f.binade + (q - f.binade):=by omega
        rw [e,mg_eq _ 0 _ (by omega)];omega
    have m1:mg f.binade (q + 1)=q + 1:=by
      rw [mg_succ _ _ hB,m0]
      by_cases hs:q < f.binade
      · rw [ulp_small hs]
      · have e:q=(0 + 1) * f.binade + (q - f.binade):=by omega
        have:=ulp_eq f.binade 0 (q - f.binade) (by omega)
        rw [← e] at this;rw [this]
    refine ⟨_,IsRn.of_floor (r:=q) hB ?_ ?_ _ rfl,?_⟩
    · rw [m0,Nat.mul_comm];omega
    · rw [m1,Nat.succ_mul,Nat.mul_comm];omega
    · have e1:f.leastPlace - f.leastPlace=0:=by omega
      rw [m0,m1,e1]
      have e2:(q + (q + 1)) * D=2 * (D * q) + D:=by
        rw [← Nat.add_assoc,Nat.add_mul,← Nat.two_mul,Nat.mul_assoc,Nat.mul_comm q D];omega
      have e3:(decide (D < 2 * t) || decide (D=2 * t) && decide (q % 2=1))=(decide ((q + (q + 1)) * D < 2 * N) || decide ((q + (q + 1)) * D=2 * N) && decide (q % 2=1)):=by
        rw [e2]
        congr 1
        · simp only [decide_eq_decide];omega
        · congr 1;simp only [decide_eq_decide];omega
      rw [e3];simp
  ·
    have hc':f.leastPlace < place + mag.log2 - f.fractionBits:=by omega
    rw [Int.max_eq_left (by omega)]
    generalize hl:place + mag.log2 - f.fractionBits=last at *
    generalize hX:mag <<< (place - last).toNat=X
    rw [Nat.shiftLeft_eq] at hX
    generalize hd:(last - place).toNat=d
    obtain ⟨s,hs⟩:∃ s:Nat,(last - f.leastPlace).toNat=s + 1:=⟨(last - f.leastPlace).toNat - 1,by omega⟩
    have hXlo:f.binade * 2 ^ d≤X:=by
      rw [hBp,← Nat.pow_add,← hX]
      refine Nat.le_trans (m:=2 ^ mag.log2 * 2 ^ (place - last).toNat) ?_ (Nat.mul_le_mul_right _ hlo)
      rw [← Nat.pow_add]
      exact Nat.pow_le_pow_right (by omega) (by omega)
    have hXhi:X < 2 * f.binade * 2 ^ d:=by
      rw [h2B,← Nat.pow_add,← hX]
      refine Nat.lt_of_lt_of_le (Nat.mul_lt_mul_of_pos_right hhi (Nat.two_pow_pos _)) ?_
      rw [← Nat.pow_add]
      exact Nat.pow_le_pow_right (by omega) (by omega)
    have cross:X * 2 ^ (s + 1) * 2 ^ (f.leastPlace - place).toNat=mag * 2 ^ (place - f.leastPlace).toNat * 2 ^ d:=by
      rw [← hX,Nat.mul_assoc,Nat.mul_assoc,Nat.mul_assoc,← Nat.pow_add,← Nat.pow_add,← Nat.pow_add]
      congr 2;omega
    rw [cut_even]
    have hD:0 < 2 ^ d:=Nat.two_pow_pos _
    have hcr:∀ r,IsRn f.binade (X * 2 ^ (s + 1)) (2 ^ d) r→IsRn f.binade (mag * 2 ^ (place - f.leastPlace).toNat) (2 ^ (f.leastPlace - place).toNat) r :=
      fun r h=>h.cross hD (Nat.two_pow_pos _) cross
    generalize 2 ^ d=D at *
    have hq1:X / D < 2 * f.binade:=Nat.div_lt_of_lt_mul (by rw [Nat.mul_comm];exact hXhi)
    have hq0:f.binade≤X / D:=(Nat.le_div_iff_mul_le hD).2 hXlo
    have hdm:=Nat.div_add_mod X D
    have hml:=Nat.mod_lt X hD
    generalize hq':X / D=q at *
    generalize X % D=t at *
    obtain ⟨u,rfl⟩:∃ u,q=f.binade + u:=⟨q - f.binade,by omega⟩
    have hrung:(s + 1) * f.binade + (f.binade + u)=(s + 1 + 1) * f.binade + u:=by rw [Nat.succ_mul (s + 1)];omega
    have m0:=mg_eq f.binade (s + 1) u (by omega)
    have m1:mg f.binade ((s + 1 + 1) * f.binade + u + 1)=(f.binade + u + 1) * 2 ^ (s + 1):=by
      rw [mg_succ _ _ hB,m0,ulp_eq f.binade (s + 1) u (by omega),Nat.succ_mul (f.binade + u)]
    have hS:0 < 2 ^ (s + 1):=Nat.two_pow_pos _
    have par:((s + 1 + 1) * f.binade + u) % 2=(f.binade + u) % 2:=by
      rw [Nat.add_mod,Nat.mul_mod,heven];omega
    refine ⟨_,hcr _ (IsRn.of_floor (r:=(s + 1 + 1) * f.binade + u) hB ?_ ?_ _ rfl),?_⟩
    · rw [m0,Nat.mul_right_comm];exact Nat.mul_le_mul_right _ (by rw [Nat.mul_comm];omega)
    · rw [m1,Nat.mul_right_comm];exact Nat.mul_lt_mul_of_pos_right (by rw [Nat.succ_mul,Nat.mul_comm];omega) hS
    · rw [hs,m0,m1]
      have e0:((f.binade + u) * 2 ^ (s + 1) + (f.binade + u + 1) * 2 ^ (s + 1)) * D=((f.binade + u + (f.binade + u + 1)) * D) * 2 ^ (s + 1):=by
        rw [← Nat.add_mul,Nat.mul_right_comm]
      have e1:2 * (X * 2 ^ (s + 1))=2 * X * 2 ^ (s + 1):=by rw [Nat.mul_assoc]
      have e2:(f.binade + u + (f.binade + u + 1)) * D=2 * (D * (f.binade + u)) + D:=by
        rw [← Nat.add_assoc,Nat.add_mul _ 1,← Nat.two_mul,Nat.mul_assoc,Nat.mul_comm (f.binade + u) D];omega
      have e3:(decide (D < 2 * t) || decide (D=2 * t) && decide ((f.binade + u) % 2=1)) =
          (decide (((f.binade + u) * 2 ^ (s + 1) + (f.binade + u + 1) * 2 ^ (s + 1)) * D < 2 * (X * 2 ^ (s + 1))) || decide (((f.binade + u) * 2 ^ (s + 1) + (f.binade + u + 1) * 2 ^ (s + 1)) * D=2 * (X * 2 ^ (s + 1))) && decide (((s + 1 + 1) * f.binade + u) % 2=1)):=by
        rw [e0,e1,par,e2]
        congr 1
        · simp only [decide_eq_decide]
          rw [Nat.mul_lt_mul_right hS];omega
        · congr 1;simp only [decide_eq_decide]
          rw [Nat.mul_left_inj (by omega)];omega
      rw [e3,← Nat.add_assoc,hrung]
end
end GFl
namespace GFl
open Ieee
section
variable {f:Format}
def nan (f:Format) (x:Nat):Bool:=decide (f.infRung < rung f x)
def pl (f:Format) (x:Nat):Int:=if sgn f x then -(rung f x:Int) else (rung f x:Int)
def sv (f:Format) (x:Nat):Int:=if sgn f x then -(mg f.binade (rung f x):Int) else (mg f.binade (rung f x):Int)
theorem signed_eq (s:Bool) (m u:Nat):signed s m u=if s then -((m * 2 ^ u:Nat):Int) else ((m * 2 ^ u:Nat):Int):=by
  unfold signed;rw [Nat.shiftLeft_eq]
theorem signed_sv {x m:Nat} {e base:Int} (hb:base≤e) (hl:f.leastPlace≤base) (hm:m * 2 ^ (e - f.leastPlace).toNat=mg f.binade (rung f x)) :
    signed (sgn f x) m (e - base).toNat * (2 ^ (base - f.leastPlace).toNat:Nat)=sv f x:=by
  rw [signed_eq]
  have h:m * 2 ^ (e - base).toNat * 2 ^ (base - f.leastPlace).toNat=mg f.binade (rung f x):=by
    rw [← hm,Nat.mul_assoc,← Nat.pow_add];congr 2;omega
  unfold sv
  cases sgn f x
  · simp only [Bool.false_eq_true,if_false];rw [← h];push_cast;rfl
  · simp only [if_true];rw [← h];push_cast;rw [Int.neg_mul]
theorem compare_mul (a b:Int) (c:Nat) (hc:0 < c):compare a b=compare (a * c) (b * c):=by
  have hc':(0:Int) < c:=by omega
  rcases Int.lt_trichotomy a b with h|h|h
  · rw [Int.compare_eq_lt.2 h,Int.compare_eq_lt.2 (Int.mul_lt_mul_of_pos_right h hc')]
  · rw [Int.compare_eq_eq.2 h,Int.compare_eq_eq.2 (by rw [h])]
  · rw [Int.compare_eq_gt.2 h,Int.compare_eq_gt.2 (Int.mul_lt_mul_of_pos_right h hc')]
theorem sv_lt_iff {x y:Nat}:sv f x < sv f y ↔ pl f x < pl f y:=by
  have hB:=binade_pos f
  have h1:=@mg_lt_iff f.binade (rung f x) (rung f y) hB
  have h2:=@mg_lt_iff f.binade (rung f y) (rung f x) hB
  have h3:=le_mg f.binade (rung f x) hB
  have h4:=le_mg f.binade (rung f y) hB
  have h5:=@mg_lt_iff f.binade 0 (rung f y) hB
  have h6:=@mg_lt_iff f.binade 0 (rung f x) hB
  rw [mg_zero _ hB] at h5 h6
  unfold sv pl
  cases sgn f x <;> cases sgn f y <;> simp only [Bool.false_eq_true,if_false,if_true] <;> omega
theorem sv_inj {x y:Nat}:sv f x=sv f y ↔ pl f x=pl f y:=by
  have:=@sv_lt_iff f x y
  have:=@sv_lt_iff f y x
  omega
theorem compare_sv {x y:Nat}:compare (sv f x) (sv f y)=compare (pl f x) (pl f y):=by
  rcases Int.lt_trichotomy (sv f x) (sv f y) with h|h|h
  · rw [Int.compare_eq_lt.2 h,Int.compare_eq_lt.2 (sv_lt_iff.1 h)]
  · rw [Int.compare_eq_eq.2 h,Int.compare_eq_eq.2 (sv_inj.1 h)]
  · rw [Int.compare_eq_gt.2 h,Int.compare_eq_gt.2 (sv_lt_iff.1 h)]
theorem infRung_pos (g:Good f):0 < f.infRung:=by
  unfold Format.infRung
  have:2 ^ 2≤2 ^ f.exponentBits:=Nat.pow_le_pow_right (by omega) g.e
  exact Nat.mul_pos (by omega) (binade_pos f)
theorem order_eq (g:Good f) {x y:Nat} (hx:x < 2 ^ f.width) (hy:y < 2 ^ f.width) :
    f.order x y=if nan f x || nan f y then none else some (compare (pl f x) (pl f y)):=by
  have hi:=infRung_pos g
  unfold Format.order
  rcases Nat.lt_trichotomy (rung f x) f.infRung with hx1|hx1|hx1
  · obtain ⟨m,i,e1,li,hm,_,_⟩:=read_num hx hx1
    have nx:nan f x=false:=by unfold nan;simp;omega
    rcases Nat.lt_trichotomy (rung f y) f.infRung with hy1|hy1|hy1
    · obtain ⟨n,j,e2,lj,hn,_,_⟩:=read_num hy hy1
      have ny:nan f y=false:=by unfold nan;simp;omega
      rw [e1,e2,nx,ny]
      simp only [Datum.order,Bool.or_self,Bool.false_eq_true,if_false]
      rw [compare_mul _ _ (2 ^ (min i j - f.leastPlace).toNat) (Nat.two_pow_pos _),signed_sv (by omega) (by omega) hm,signed_sv (by omega) (by omega) hn,compare_sv]
    · have ny:nan f y=false:=by unfold nan;simp;omega
      rw [e1,read_inf hy hy1 g,nx,ny]
      simp only [Datum.order,Bool.or_self,Bool.false_eq_true,if_false]
      congr 1
      unfold pl
      rw [hy1]
      cases sgn f y <;> cases sgn f x <;> simp only [Bool.false_eq_true,if_false,if_true] <;> symm <;> first|(rw [Int.compare_eq_lt];omega)|(rw [Int.compare_eq_gt];omega)
    · have ny:nan f y=true:=by unfold nan;simp;omega
      rw [e1,read_nan hy hy1 g,ny]
      simp [Datum.order]
  · have nx:nan f x=false:=by unfold nan;simp;omega
    rcases Nat.lt_trichotomy (rung f y) f.infRung with hy1|hy1|hy1
    · obtain ⟨n,j,e2,lj,hn,_,_⟩:=read_num hy hy1
      have ny:nan f y=false:=by unfold nan;simp;omega
      rw [read_inf hx hx1 g,e2,nx,ny]
      simp only [Datum.order,Bool.or_self,Bool.false_eq_true,if_false]
      congr 1
      unfold pl
      rw [hx1]
      cases sgn f y <;> cases sgn f x <;> simp only [Bool.false_eq_true,if_false,if_true] <;> symm <;> first|(rw [Int.compare_eq_lt];omega)|(rw [Int.compare_eq_gt];omega)
    · have ny:nan f y=false:=by unfold nan;simp;omega
      rw [read_inf hx hx1 g,read_inf hy hy1 g,nx,ny]
      simp only [Datum.order,Bool.or_self,Bool.false_eq_true,if_false]
      congr 1
      unfold pl
      rw [hx1,hy1]
      cases sgn f y <;> cases sgn f x <;> simp only [Bool.false_eq_true,if_false,if_true,Bool.toNat_true,Bool.toNat_false] <;> symm <;>
        first|(rw [Int.compare_eq_eq.2 rfl];rfl)|(rw [Int.compare_eq_lt.2 (by omega)];rfl)|(rw [Int.compare_eq_gt.2 (by omega)];rfl)
    · have ny:nan f y=true:=by unfold nan;simp;omega
      rw [read_inf hx hx1 g,read_nan hy hy1 g,ny]
      simp [Datum.order]
  · have nx:nan f x=true:=by unfold nan;simp;omega
    rw [read_nan hx hx1 g,nx]
    simp [Datum.order]
theorem order_lt (g:Good f) {x y:Nat} (hx:x < 2 ^ f.width) (hy:y < 2 ^ f.width) :
    (f.order x y == some .lt)=(!nan f x && !nan f y && decide (pl f x < pl f y)):=by
  rw [order_eq g hx hy]
  cases nan f x <;> cases nan f y <;> simp
  rcases Int.lt_trichotomy (pl f x) (pl f y) with h|h|h
  · rw [Int.compare_eq_lt.2 h];simp [h]
  · rw [Int.compare_eq_eq.2 h];simp [h]
  · rw [Int.compare_eq_gt.2 h];simp;omega
theorem order_gt (g:Good f) {x y:Nat} (hx:x < 2 ^ f.width) (hy:y < 2 ^ f.width) :
    (f.order x y == some .gt)=(!nan f x && !nan f y && decide (pl f y < pl f x)):=by
  rw [order_eq g hx hy]
  cases nan f x <;> cases nan f y <;> simp
  rcases Int.lt_trichotomy (pl f x) (pl f y) with h|h|h
  · rw [Int.compare_eq_lt.2 h];simp;omega
  · rw [Int.compare_eq_eq.2 h];simp [h]
  · rw [Int.compare_eq_gt.2 h];simp [h]
theorem order_eqv (g:Good f) {x y:Nat} (hx:x < 2 ^ f.width) (hy:y < 2 ^ f.width) :
    (f.order x y == some .eq)=(!nan f x && !nan f y && decide (pl f x=pl f y)):=by
  rw [order_eq g hx hy]
  cases nan f x <;> cases nan f y <;> simp
  rcases Int.lt_trichotomy (pl f x) (pl f y) with h|h|h
  · rw [Int.compare_eq_lt.2 h];simp;omega
  · rw [Int.compare_eq_eq.2 h];simp [h]
  · rw [Int.compare_eq_gt.2 h];simp;omega
theorem order_le (g:Good f) {x y:Nat} (hx:x < 2 ^ f.width) (hy:y < 2 ^ f.width) :
    (f.order x y == some .lt || f.order x y == some .eq)=(!nan f x && !nan f y && decide (pl f x≤pl f y)):=by
  rw [order_lt g hx hy,order_eqv g hx hy]
  cases nan f x <;> cases nan f y <;> simp
  rw [Bool.eq_iff_iff];simp;omega
theorem order_ge (g:Good f) {x y:Nat} (hx:x < 2 ^ f.width) (hy:y < 2 ^ f.width) :
    (f.order x y == some .gt || f.order x y == some .eq)=(!nan f x && !nan f y && decide (pl f y≤pl f x)):=by
  rw [order_gt g hx hy,order_eqv g hx hy]
  cases nan f x <;> cases nan f y <;> simp
  rw [Bool.eq_iff_iff];simp;omega
theorem order_ne (g:Good f) {x y:Nat} (hx:x < 2 ^ f.width) (hy:y < 2 ^ f.width) :
    (f.order x y != some .eq)=(nan f x || nan f y || decide (pl f x ≠ pl f y)):=by
  rw [bne,order_eqv g hx hy]
  cases nan f x <;> cases nan f y <;> simp
theorem add_fin (g:Good f) {x y:Nat} (hx:x < 2 ^ f.width) (hy:y < 2 ^ f.width) (hx1:rung f x < f.infRung) (hy1:rung f y < f.infRung) :
    ∃ r,IsRn f.binade (sv f x + sv f y).natAbs 1 r ∧
      f.add x y=some (f.word (if sv f x + sv f y=0 then sgn f x && sgn f y else decide (sv f x + sv f y < 0)) (min r f.infRung)):=by
  obtain ⟨m,i,e1,li,hm,_,_⟩:=read_num hx hx1
  obtain ⟨n,j,e2,lj,hn,_,_⟩:=read_num hy hy1
  unfold Format.add
  rw [e1,e2]
  simp only [Datum.sum,Option.map_some,Format.write]
  have a1:=signed_sv (f:=f) (x:=x) (m:=m) (e:=i) (base:=min i j) (by omega) (by omega) hm
  have a2:=signed_sv (f:=f) (x:=y) (m:=n) (e:=j) (base:=min i j) (by omega) (by omega) hn
  have hl:f.leastPlace≤min i j:=by omega
  generalize min i j=base at *
  generalize signed (sgn f x) m (i - base).toNat=S at *
  generalize signed (sgn f y) n (j - base).toNat=T at *
  have hc:0 < 2 ^ (base - f.leastPlace).toNat:=Nat.two_pow_pos _
  have htot:(S + T) * (2 ^ (base - f.leastPlace).toNat:Nat)=sv f x + sv f y:=by rw [Int.add_mul,a1,a2]
  obtain ⟨r,hr,hw⟩:=nearest_rn g (if S + T=0 then sgn f x && sgn f y else decide (S + T < 0)) (S + T).natAbs base
  refine ⟨r,?_,?_⟩
  · have e3:(f.leastPlace - base).toNat=0:=by omega
    have e4:(S + T).natAbs * 2 ^ (base - f.leastPlace).toNat=(sv f x + sv f y).natAbs:=by
      rw [← htot,Int.natAbs_mul];rfl
    rw [e3,e4] at hr
    exact hr
  · rw [hw]
    generalize 2 ^ (base - f.leastPlace).toNat=c at *
    have hc':(0:Int) < c:=by omega
    have z:S + T=0 ↔ sv f x + sv f y=0:=by
      rw [← htot];constructor
      · intro h;rw [h];simp
      · intro h;rcases Int.mul_eq_zero.1 h with h|h
        · exact h
        · omega
    have l:S + T < 0 ↔ sv f x + sv f y < 0:=by
      rw [← htot];constructor
      · intro h;exact Int.mul_neg_of_neg_of_pos h hc'
      · intro h
        by_cases h1:S + T < 0
        · exact h1
        · have:=Int.mul_nonneg (Int.not_lt.1 h1) (Int.le_of_lt hc');omega
    simp only [z,l]
theorem mul_fin (g:Good f) {x y:Nat} (hx:x < 2 ^ f.width) (hy:y < 2 ^ f.width) (hx1:rung f x < f.infRung) (hy1:rung f y < f.infRung) (hL:f.leastPlace≤0) :
    ∃ r,IsRn f.binade (mg f.binade (rung f x) * mg f.binade (rung f y)) (2 ^ (-f.leastPlace).toNat) r ∧
      f.mul x y=some (f.word (sgn f x ^^ sgn f y) (min r f.infRung)):=by
  obtain ⟨m,i,e1,li,hm,_,_⟩:=read_num hx hx1
  obtain ⟨n,j,e2,lj,hn,_,_⟩:=read_num hy hy1
  unfold Format.mul
  rw [e1,e2]
  simp only [Datum.product,Option.map_some,Format.write]
  obtain ⟨r,hr,hw⟩:=nearest_rn g (sgn f x ^^ sgn f y) (m * n) (i + j)
  refine ⟨r,hr.cross (Nat.two_pow_pos _) (Nat.two_pow_pos _) ?_,by rw [hw]⟩
  rw [← hm,← hn]
  have e:m * 2 ^ (i - f.leastPlace).toNat * (n * 2 ^ (j - f.leastPlace).toNat)=m * n * (2 ^ (i - f.leastPlace).toNat * 2 ^ (j - f.leastPlace).toNat):=by
    rw [Nat.mul_assoc,Nat.mul_assoc m n];congr 1;rw [Nat.mul_left_comm]
  rw [e]
  generalize m * n=q
  rw [Nat.mul_assoc q,Nat.mul_assoc q,← Nat.pow_add,← Nat.pow_add,← Nat.pow_add]
  congr 2;omega
end
end GFl
namespace GFl
open Ieee
theorem d_sw:double.signWeight=9223372036854775808:=by decide
theorem d_inf:double.infRung=9218868437227405312:=by decide
theorem d_b:double.binade=4503599627370496:=by decide
theorem d_l:double.leastPlace=-1074:=by decide
theorem d_w:2 ^ double.width=18446744073709551616:=by decide
def W64 (x:Nat):Prop:=x < 2 ^ double.width
theorem W64.lt {x:Nat} (h:W64 x):x < 18446744073709551616:=by unfold W64 at h;rwa [d_w] at h
theorem W64.mk {x:Nat} (h:x < 18446744073709551616):W64 x:=by unfold W64;rwa [d_w]
def rg (x:Nat):Nat:=rung double x
def neg (x:Nat):Bool:=sgn double x
def plc (x:Nat):Int:=pl double x
def isn (x:Nat):Bool:=nan double x
def val (x:Nat):Int:=sv double x
theorem rg_eq (x:Nat):rg x=x % 9223372036854775808:=by unfold rg rung;rw [d_sw]
theorem neg_eq (x:Nat):neg x=decide (9223372036854775808≤x):=by unfold neg sgn;rw [d_sw]
theorem isn_eq (x:Nat):isn x=decide (9218868437227405312 < rg x):=by unfold isn nan rg;rw [d_inf]
theorem plc_eq (x:Nat):plc x=if neg x then -(rg x:Int) else (rg x:Int):=rfl
theorem val_eq (x:Nat):val x=if neg x then -(mg double.binade (rg x):Int) else (mg double.binade (rg x):Int):=rfl
theorem o_lt {x y:Nat} (hx:W64 x) (hy:W64 y):(double.order x y == some .lt)=(!isn x && !isn y && decide (plc x < plc y)):=order_lt good_double hx hy
theorem o_gt {x y:Nat} (hx:W64 x) (hy:W64 y):(double.order x y == some .gt)=(!isn x && !isn y && decide (plc y < plc x)):=order_gt good_double hx hy
theorem o_eq {x y:Nat} (hx:W64 x) (hy:W64 y):(double.order x y == some .eq)=(!isn x && !isn y && decide (plc x=plc y)):=order_eqv good_double hx hy
theorem o_le {x y:Nat} (hx:W64 x) (hy:W64 y):(double.order x y == some .lt || double.order x y == some .eq)=(!isn x && !isn y && decide (plc x≤plc y)):=order_le good_double hx hy
theorem o_ge {x y:Nat} (hx:W64 x) (hy:W64 y):(double.order x y == some .gt || double.order x y == some .eq)=(!isn x && !isn y && decide (plc y≤plc x)):=order_ge good_double hx hy
theorem o_ne {x y:Nat} (hx:W64 x) (hy:W64 y):(double.order x y != some .eq)=(isn x || isn y || decide (plc x ≠ plc y)):=order_ne good_double hx hy
theorem o_ne_self {x:Nat} (hx:W64 x):(double.order x x != some .eq)=isn x:=by rw [o_ne hx hx];simp
theorem xor_top {n y:Nat} (h:y < 2 ^ n):y ^^^ 2 ^ n=y + 2 ^ n:=by
  apply Nat.eq_of_testBit_eq
  intro i
  rw [Nat.testBit_xor,Nat.testBit_two_pow,Nat.add_comm]
  rcases Nat.lt_trichotomy i n with hi|hi|hi
  · rw [Nat.testBit_two_pow_add_gt hi]
    have:¬ n=i:=by omega
    simp [this]
  · subst hi
    rw [Nat.testBit_two_pow_add_eq,Nat.testBit_lt_two_pow h];simp
  · have h1:2 ^ (n + 1)≤2 ^ i:=Nat.pow_le_pow_right (by omega) (by omega)
    have h2:2 ^ (n + 1)=2 ^ n * 2:=Nat.pow_succ ..
    have:¬ n=i:=by omega
    rw [Nat.testBit_lt_two_pow (x:=y) (by omega),Nat.testBit_lt_two_pow (x:=2 ^ n + y) (by omega)]
    simp [this]
def fneg (x:Nat):Nat:=x ^^^ 2 ^ 63
theorem fneg_eq {x:Nat} (h:W64 x):fneg x=if neg x then x - 9223372036854775808 else x + 9223372036854775808:=by
  have h:=h.lt
  rw [neg_eq]
  unfold fneg
  by_cases h1:9223372036854775808≤x
  · simp only [h1,decide_true,if_true]
    have h3:x - 9223372036854775808 < 2 ^ 63:=by omega
    have h2:x=(x - 9223372036854775808) ^^^ 2 ^ 63:=by rw [xor_top h3];omega
    have h4:x ^^^ 2 ^ 63=((x - 9223372036854775808) ^^^ 2 ^ 63) ^^^ 2 ^ 63:=by rw [← h2]
    rw [h4,Nat.xor_assoc,Nat.xor_self,Nat.xor_zero]
  · simp only [h1,decide_false,Bool.false_eq_true,if_false]
    exact xor_top (by omega)
theorem fneg_w {x:Nat} (h:W64 x):W64 (fneg x):=by
  rw [fneg_eq h,neg_eq]
  have:=h.lt
  refine W64.mk ?_
  by_cases h1:9223372036854775808≤x <;> simp [h1] <;> omega
theorem fneg_rg {x:Nat} (h:W64 x):rg (fneg x)=rg x:=by
  have hl:=h.lt
  rw [fneg_eq h,neg_eq,rg_eq,rg_eq]
  by_cases h1:9223372036854775808≤x <;> simp only [h1,decide_true,decide_false,if_true,Bool.false_eq_true,if_false] <;> omega
theorem fneg_neg {x:Nat} (h:W64 x):neg (fneg x)=!neg x:=by
  have hl:=h.lt
  rw [fneg_eq h,neg_eq,neg_eq]
  by_cases h1:9223372036854775808≤x
  · simp only [h1,decide_true,if_true,Bool.not_true,decide_eq_false_iff_not];omega
  · simp only [h1,decide_false,Bool.false_eq_true,if_false,Bool.not_false,decide_eq_true_eq];omega
theorem fneg_isn {x:Nat} (h:W64 x):isn (fneg x)=isn x:=by rw [isn_eq,isn_eq,fneg_rg h]
theorem fneg_val {x:Nat} (h:W64 x):val (fneg x)=-val x:=by
  rw [val_eq,val_eq,fneg_rg h,fneg_neg h];cases neg x <;> simp
theorem w64_ext {x y:Nat} (hx:W64 x) (hy:W64 y) (h1:neg x=neg y) (h2:rg x=rg y):x=y:=by
  have:=hx.lt;have:=hy.lt
  rw [neg_eq,neg_eq,decide_eq_decide] at h1
  rw [rg_eq,rg_eq] at h2
  omega
def wd (s:Bool) (r:Nat):Nat:=double.word s r
theorem wd_eq (s:Bool) (r:Nat):wd s r=if s then 9223372036854775808 + r else r:=by unfold wd Format.word;rw [d_sw]
theorem wd_rg {s:Bool} {r:Nat} (h:r < 9223372036854775808):rg (wd s r)=r:=rung_word (by rw [d_sw];exact h)
theorem wd_neg {s:Bool} {r:Nat} (h:r < 9223372036854775808):neg (wd s r)=s:=sgn_word (by rw [d_sw];exact h)
theorem wd_w {s:Bool} {r:Nat} (h:r < 9223372036854775808):W64 (wd s r):=W64.mk (by rw [wd_eq];cases s <;> simp <;> omega)
theorem w64_wd {x:Nat} (h:W64 x):x=wd (neg x) (rg x):=word_split h
theorem w_const {x:Nat} (h:decide (x < 18446744073709551616)=true):W64 x:=W64.mk (of_decide_eq_true h)
theorem plc_lt_zero {x:Nat}:plc x < 0 ↔ neg x=true∧0 < rg x:=by rw [plc_eq];cases neg x <;> simp <;> omega
theorem plc_zero {x:Nat}:plc x=0 ↔ rg x=0:=by rw [plc_eq];cases neg x <;> simp
theorem plc_natAbs (x:Nat):(plc x).natAbs=rg x:=by rw [plc_eq];cases neg x <;> simp
theorem isn0:isn 0=false:=by decide
theorem plc0:plc 0=0:=by decide
theorem rg_lt (x:Nat):rg x < 9223372036854775808:=by rw [rg_eq];omega
end GFl
