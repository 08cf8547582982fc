import Derived.Test.YtaedkekjekbjmaaGreatDoorFa
import Derived.Test.YtaedkekjekbjmaaGreatDoorFl
import Derived.Test.YtaedkekjekbjmaaGreatDoorFm
import Derived.Laws.BitsAllLaws
import Derived.Test.YtaedkekjekbjmaaGreatDoorFi
import Derived.Deep.AppendLies
import Derived.Deep.LoopGhost
import Derived.StillTailTactics
import Derived.Deep.RegionHeld3
import Derived.Deep.RegionWith
import Derived.BigRegion
import Derived.Test.YtaedkekjekbjmaaGreatDoorFk
/- Plain laws: what bignum's printed functions on words answer. No memory. -/
namespace Go.Proofs.YtaedkekjekbjmaaGreatDoor.XBn
open Go Go.RowKit Go.Proofs.YtaedkekjekbjmaaGreatDoorW.PrintWords Nv
set_option maxRecDepth 100000

theorem rd_nat {l : List Int} {i : Nat} (h : i < l.length) : rd l (i : Int) = l[i] := by
  unfold rd
  rw [Int.toNat_natCast, List.getD_eq_getElem?_getD, List.getElem?_eq_getElem h]; rfl
theorem trim_l0 (l : List Int) (hd : Dg l) (hl : l.length ≤ 4611686018427387904) : ∀ n k, n ≤ l.length → n < k → ∃ r, bignum_trim.l0 k l (n : Int) = some r ∧ nv r = nv (l.take n) ∧ Nm r ∧ r.length ≤ n := by
  intro n
  induction n with
  | zero =>
    intro k hn hk
    obtain ⟨k, rfl⟩ : ∃ m, k = m + 1 := ⟨k - 1, by omega⟩
    refine ⟨[], ?_, by simp, Nm.nil, by simp⟩
    simp only [bignum_trim.l0]
    rw [if_neg (by omega), if_pos (by omega), if_pos (by omega)]; simp
  | succ n ih =>
    intro k hn hk
    obtain ⟨k, rfl⟩ : ∃ m, k = m + 1 := ⟨k - 1, by omega⟩
    have hw : wrap64 (((n + 1 : Nat) : Int) - 1) = (n : Int) := by unfold wrap64; omega
    simp only [bignum_trim.l0]
    rw [if_pos (by omega), hw, if_pos (by omega), if_pos (by omega), rd_nat (by omega)]
    by_cases h0 : l[n] = 0
    · rw [if_pos h0]
      obtain ⟨r, h1, h2, h3, h4⟩ := ih k (by omega) (by omega)
      exact ⟨r, h1, by rw [h2, nv_take_succ (by omega), h0]; simp, h3, by omega⟩
    · rw [if_neg h0, if_pos (by omega), if_pos (by omega), Int.toNat_natCast]
      refine ⟨_, rfl, rfl, ⟨hd.take _, fun h => ?_⟩, by simp; omega⟩
      have e : l.take (n + 1) = l.take n ++ [l[n]] := List.take_succ_eq_append_getElem (by omega)
      simp only [e, List.getLast_concat]
      exact h0
theorem trim_f (l : List Int) (hd : Dg l) (hl : l.length ≤ 4611686018427387904) (k : Nat) (hk : l.length < k) : ∃ r, bignum_trim.f k l = some r ∧ nv r = nv l ∧ Nm r ∧ r.length ≤ l.length := by
  obtain ⟨r, h1, h2, h3, h4⟩ := trim_l0 l hd hl l.length k (Nat.le_refl _) hk
  exact ⟨r, h1, by rw [h2, List.take_length], h3, h4⟩
theorem words_f (x : Nat) (hx : x < 18446744073709551616) (k : Nat) (hk : 2 < k) : ∃ r, bignum_words.f k (x : Int) = some r ∧ nv r = x ∧ Nm r ∧ r.length ≤ 2 := by
  have hd : Dg [(x : Int) % 4294967296, ((x : Int) / 4294967296) % 4294967296] := by
    simp only [Dg.cons]
    exact ⟨by omega, by omega, Dg.nil⟩
  obtain ⟨r, h1, h2, h3, h4⟩ := trim_f _ hd (by simp) k (by simpa using hk)
  refine ⟨r, ?_, ?_, h3, by simpa using h4⟩
  · unfold bignum_words.f
    rw [h1]; rfl
  · rw [h2]; simp only [nv_cons, nv_nil]; omega
theorem sw1 {a b c : Int} : (IntKind.u64.wrap (IntKind.u64.wrap (IntKind.u64.wrap a - c) - IntKind.u64.wrap b)) % 4294967296 = (a - c - b) % 4294967296 := by simp only [IntKind.wrap_u64]; omega
theorem sw2 {a b c : Int} (a0 : 0 ≤ a) (a1 : a < 4294967296) (b0 : 0 ≤ b) (b1 : b < 4294967296) (hc : c = 0 ∨ c = 1) : (IntKind.u64.wrap (IntKind.u64.wrap (IntKind.u64.wrap a - c) - IntKind.u64.wrap b)) / 9223372036854775808 = if a - c - b < 0 then 1 else 0 := by simp only [IntKind.wrap_u64]; split <;> omega
theorem sw3 {a c : Int} : (IntKind.u64.wrap (IntKind.u64.wrap a - c)) % 4294967296 = (a - c - 0) % 4294967296 := by simp only [IntKind.wrap_u64]; omega
theorem sw4 {a c : Int} (a0 : 0 ≤ a) (a1 : a < 4294967296) (hc : c = 0 ∨ c = 1) : (IntKind.u64.wrap (IntKind.u64.wrap a - c)) / 9223372036854775808 = if a - c - 0 < 0 then 1 else 0 := by simp only [IntKind.wrap_u64]; split <;> omega
theorem sub_mod (t : Int) : ∀ _ : -4294967296 ≤ t ∧ t < 4294967296, t % 4294967296 = t + (if t < 0 then 1 else 0) * 4294967296 := fun h => by split <;> omega
theorem sub_alg {X A B c q s m t ai y : Int} (h : X - c * s = A - B) (e : m = t + q * 4294967296) (ht : t = ai - c - y) : X + s * m - q * (4294967296 * s) = A + s * ai - (B + s * y) := by
  subst e ht
  have e1 : s * (ai - c - y + q * 4294967296) = s * ai - c * s - s * y + q * (4294967296 * s) := by
    rw [Int.mul_add, Int.mul_sub, Int.mul_sub, Int.mul_comm s c, ← Int.mul_assoc s q, Int.mul_comm s q, Int.mul_assoc q s, Int.mul_comm s 4294967296]
  rw [e1]
  generalize c * s = u at *
  generalize s * ai = v
  generalize s * y = z
  generalize q * (4294967296 * s) = r
  omega
theorem sub_l0 (a b : List Int) (ha : Dg a) (hb : Dg b) (hl : a.length ≤ 1099511627776) (hle : nv b ≤ nv a) (hbl : b.length ≤ a.length) :
    ∀ d i k (x : List Int) (c : Int), i + d = a.length → d + a.length + 2 < k → x.length = a.length → Dg x → (c = 0 ∨ c = 1) → nv (x.take i) - c * bs i = nv (a.take i) - nv (b.take i) →
      ∃ r, bignum_sub.l0 k a b x c (i : Int) = some r ∧ nv r = nv a - nv b ∧ Nm r ∧ r.length ≤ a.length := by
  intro d
  induction d with
  | zero =>
    intro i k x c hi hk hx hdx hc hinv
    obtain ⟨k, rfl⟩ : ∃ m, k = m + 1 := ⟨k - 1, by omega⟩
    obtain rfl : i = a.length := by omega
    obtain ⟨r, h1, h2, h3, h4⟩ := trim_f x hdx (by omega) k (by omega)
    simp only [bignum_sub.l0]
    rw [if_neg (by omega), h1]
    have e1 : x.take a.length = x := List.take_of_length_le (by omega)
    have e2 : b.take a.length = b := List.take_of_length_le hbl
    rw [e1, List.take_length, e2] at hinv
    have h5 := nv_lt hdx
    rw [hx] at h5
    have h6 := bs_pos a.length
    have hc0 : c = 0 := by
      rcases hc with h | h
      · exact h
      · rw [h, Int.one_mul] at hinv; omega
    rw [hc0] at hinv
    exact ⟨r, rfl, by rw [h2]; omega, h3, by omega⟩
  | succ d ih =>
    intro i k x c hi hk hx hdx hc hinv
    obtain ⟨k, rfl⟩ : ∃ m, k = m + 1 := ⟨k - 1, by omega⟩
    have hia : i < a.length := by omega
    have g1 : i + 1 + d = a.length := by omega
    have g2 : d + a.length + 2 < k := by clear ih hinv hc hle hl; omega
    have hw : wrap64 ((i : Int) + 1) = ((i + 1 : Nat) : Int) := by unfold wrap64; omega
    have da := ha.at hia
    have step : ∀ (y : Int), 0 ≤ y → y < 4294967296 → (nv (b.take (i + 1)) = nv (b.take i) + bs i * y) →
        ∀ t, t = a[i] - c - y → ∃ r, bignum_sub.l0 k a b (x.set i (t % 4294967296)) (if t < 0 then 1 else 0) ((i + 1 : Nat) : Int) = some r ∧ nv r = nv a - nv b ∧ Nm r ∧ r.length ≤ a.length := by
      intro y h0 h1 hy t ht
      have g3 : (x.set i (t % 4294967296)).length = a.length := by rw [List.length_set]; exact hx
      have m0 : 0 ≤ t % 4294967296 := Int.emod_nonneg _ (by decide)
      have m1 : t % 4294967296 < 4294967296 := Int.emod_lt_of_pos _ (by decide)
      have g4 : Dg (x.set i (t % 4294967296)) := hdx.set m0 m1
      have hrange : -4294967296 ≤ t ∧ t < 4294967296 := by clear ih hinv hy g3 g4 m0 m1; omega
      have g5 : (if t < 0 then (1 : Int) else 0) = 0 ∨ (if t < 0 then (1 : Int) else 0) = 1 := by split <;> simp
      refine ih (i + 1) k (x.set i (t % 4294967296)) (if t < 0 then 1 else 0) g1 g2 g3 g4 g5 ?_
      clear g3 g4 g5
      have hxi : i < (x.set i (t % 4294967296)).length := by rw [List.length_set, hx]; exact hia
      rw [nv_take_succ hxi, take_set_ge (Nat.le_refl _), List.getElem_set_self, nv_take_succ hia, hy, bs_succ]
      exact sub_alg hinv (sub_mod t hrange) ht
    have j1 : (i : Int) < (a.length : Int) := by clear step ih hinv hle; omega
    have j2 : (0 : Int) ≤ (i : Int) := by clear step ih hinv hle; omega
    have j3 : (i : Int) < (x.length : Int) := by clear step ih hinv hle; omega
    have j4 : ¬ i < b.length → ¬ (i : Int) < (b.length : Int) := by clear step ih hinv hle; omega
    have j5 : i < b.length → (i : Int) < (b.length : Int) := by clear step ih hinv hle; omega
    clear ih hinv hle g1 g2 hk hi hbl hl
    simp only [bignum_sub.l0]
    rw [if_pos j1, if_pos j2, rd_nat hia, hw, Int.toNat_natCast]
    by_cases hib : i < b.length
    · have db := hb.at hib
      rw [if_pos (j5 hib), if_pos j3, rd_nat hib]
      have hs := step b[i] db.1 db.2 (nv_take_succ hib) _ rfl
      have e1 : (IntKind.u64.wrap (IntKind.u64.wrap (IntKind.u64.wrap a[i] - c) - IntKind.u64.wrap b[i])) % 4294967296 = (a[i] - c - b[i]) % 4294967296 := by clear hs step; exact sw1
      have e2 : (IntKind.u64.wrap (IntKind.u64.wrap (IntKind.u64.wrap a[i] - c) - IntKind.u64.wrap b[i])) / 9223372036854775808 = if a[i] - c - b[i] < 0 then 1 else 0 := by clear hs step; exact sw2 da.1 da.2 db.1 db.2 hc
      rw [e1, e2]
      exact hs
    · rw [if_neg (j4 hib), if_pos j3]
      have hs := step 0 (by omega) (by omega) (by rw [List.take_of_length_le (by omega), List.take_of_length_le (by omega)]; simp) _ rfl
      have e1 : (IntKind.u64.wrap (IntKind.u64.wrap a[i] - c)) % 4294967296 = (a[i] - c - 0) % 4294967296 := by clear hs step; exact sw3
      have e2 : (IntKind.u64.wrap (IntKind.u64.wrap a[i] - c)) / 9223372036854775808 = if a[i] - c - 0 < 0 then 1 else 0 := by clear hs step; exact sw4 da.1 da.2 hc
      rw [e1, e2]
      exact hs
theorem sub_f (a b : List Int) (ha : Dg a) (hb : Nm b) (hl : a.length ≤ 1099511627776) (hle : nv b ≤ nv a) (k : Nat) (hk : 2 * a.length + 4 < k) :
    ∃ r, bignum_sub.f k a b = some r ∧ nv r = nv a - nv b ∧ Nm r ∧ r.length ≤ a.length := by
  have hbl : b.length ≤ a.length := by
    rcases Nat.lt_or_ge a.length b.length with h | h
    · have := Nm.len_lt ha hb h; omega
    · exact h
  unfold bignum_sub.f
  rw [if_pos (by omega), if_pos (by omega), Int.toNat_natCast]
  exact sub_l0 a b ha hb.1 hl hle hbl a.length 0 k _ 0 (by omega) (by omega) (by simp) (Dg.zeros _) (Or.inl rfl) (by simp [nv_nil])
theorem cmp_l0 (a b : List Int) (ha : Dg a) (hb : Dg b) (hab : a.length = b.length) (hl : a.length ≤ 1099511627776) : ∀ n k, n ≤ a.length → n < k → a.drop n = b.drop n →
    bignum_cmp.l0 k a b ((n : Int) - 1) = some (if nv a < nv b then -1 else if nv b < nv a then 1 else 0) := by
  have eq_of : ∀ n : Nat, nv a = nv (a.take n) + bs (a.take n).length * nv (a.drop n) := fun n => by rw [← nv_app, List.take_append_drop]
  have eq_of' : ∀ n : Nat, nv b = nv (b.take n) + bs (b.take n).length * nv (b.drop n) := fun n => by rw [← nv_app, List.take_append_drop]
  intro n
  induction n with
  | zero =>
    intro k _ hk he
    obtain ⟨k, rfl⟩ : ∃ m, k = m + 1 := ⟨k - 1, by omega⟩
    have e : a = b := by simpa using he
    subst e
    simp only [bignum_cmp.l0]
    rw [if_neg (by omega), if_neg (Int.lt_irrefl _), if_neg (Int.lt_irrefl _)]
  | succ n ih =>
    intro k hn hk he
    obtain ⟨k, rfl⟩ : ∃ m, k = m + 1 := ⟨k - 1, by omega⟩
    have hna : n < a.length := by omega
    have hnb : n < b.length := by omega
    have hw : wrap64 (((n + 1 : Nat) : Int) - 1 - 1) = (n : Int) - 1 := by unfold wrap64; omega
    have hc : ((n + 1 : Nat) : Int) - 1 = (n : Int) := by omega
    have i1 : (n : Int) ≥ 0 := by omega
    have i2 : (n : Int) < (a.length : Int) := by omega
    have i3 : (n : Int) < (b.length : Int) := by omega
    rw [hc] at hw ⊢
    simp only [bignum_cmp.l0]
    rw [if_pos i1, if_pos i1, if_pos i2, if_pos i3, rd_nat hna, rd_nat hnb, hw]
    by_cases h : a[n] = b[n]
    · rw [if_pos h]
      exact ih k (by omega) (by omega) (by rw [List.drop_eq_getElem_cons hna, List.drop_eq_getElem_cons hnb, h, he])
    · rw [if_neg h]
      have key : ∀ (x y : List Int), Dg x → Dg y → ∀ hx : n < x.length, ∀ hy : n < y.length, x.drop (n + 1) = y.drop (n + 1) → x[n] < y[n] → nv x < nv y := by
        intro x y dx dy hx hy hd hlt
        have ex : nv x = nv (x.take n) + bs n * x[n] + bs (n + 1) * nv (x.drop (n + 1)) := by
          have h1 := nv_app (x.take (n + 1)) (x.drop (n + 1))
          rw [List.take_append_drop, nv_take_succ hx, List.length_take, Nat.min_eq_left (by omega)] at h1
          exact h1
        have ey : nv y = nv (y.take n) + bs n * y[n] + bs (n + 1) * nv (y.drop (n + 1)) := by
          have h1 := nv_app (y.take (n + 1)) (y.drop (n + 1))
          rw [List.take_append_drop, nv_take_succ hy, List.length_take, Nat.min_eq_left (by omega)] at h1
          exact h1
        have l1 := nv_lt (dx.take n)
        rw [List.length_take, Nat.min_eq_left (by omega)] at l1
        have l2 := nv_nonneg (dy.take n)
        have l3 : bs n * (x[n] + 1) ≤ bs n * y[n] := Int.mul_le_mul_of_nonneg_left (by omega) (Int.le_of_lt (bs_pos n))
        rw [Int.mul_add, Int.mul_one] at l3
        rw [ex, ey, hd]
        clear ex ey hd ih
        generalize bs (n + 1) * nv (y.drop (n + 1)) = u
        generalize bs n * x[n] = v at *
        generalize bs n * y[n] = z at *
        omega
      by_cases h2 : a[n] < b[n]
      · rw [if_pos h2, if_pos (key a b ha hb hna hnb he h2)]
      · have h3 : b[n] < a[n] := by clear key ih hw; omega
        have := key b a hb ha hnb hna he.symm h3
        rw [if_neg h2, if_neg (by clear key ih hw h2 h3; omega), if_pos this]
theorem cmp_f (a b : List Int) (ha : Nm a) (hb : Nm b) (hl : a.length ≤ 1099511627776) (k : Nat) (hk : a.length < k) : bignum_cmp.f k a b = some (if nv a < nv b then -1 else if nv b < nv a then 1 else 0) := by
  unfold bignum_cmp.f
  by_cases h : a.length = b.length
  · rw [if_pos (by omega), show wrap64 ((a.length : Int) - 1) = (a.length : Int) - 1 by unfold wrap64; omega]
    exact cmp_l0 a b ha.1 hb.1 h hl a.length k (Nat.le_refl _) hk (by rw [List.drop_of_length_le (Nat.le_refl _), List.drop_of_length_le (by omega)])
  · rw [if_neg (by omega)]
    by_cases h2 : a.length < b.length
    · have := Nm.len_lt ha.1 hb h2
      rw [if_pos (by omega), if_pos this]
    · have := Nm.len_lt hb.1 ha (by omega)
      rw [if_neg (by omega), if_neg (by omega), if_pos this]
end Go.Proofs.YtaedkekjekbjmaaGreatDoor.XBn

/- Plain laws: bignum's printed product. No memory. -/
namespace Go.Proofs.YtaedkekjekbjmaaGreatDoor.XBn
open Go Go.RowKit Go.Proofs.YtaedkekjekbjmaaGreatDoorW.PrintWords Nv
set_option maxRecDepth 100000

theorem nv_set {l : List Int} {i : Nat} (h : i < l.length) (d : Int) : nv (l.set i d) = nv l + bs i * (d - l[i]) := by
  have h1 := nv_app (l.take (i + 1)) (l.drop (i + 1))
  rw [List.take_append_drop, nv_take_succ h, List.length_take, Nat.min_eq_left (by omega)] at h1
  have hs : i < (l.set i d).length := by simpa using h
  have h2 := nv_app ((l.set i d).take (i + 1)) ((l.set i d).drop (i + 1))
  rw [List.take_append_drop, nv_take_succ hs, List.length_take, Nat.min_eq_left (by simp; omega), take_set_ge (Nat.le_refl _), List.getElem_set_self, List.drop_set_of_lt (by omega)] at h2
  rw [h1, h2, Int.mul_sub]
  generalize bs (i + 1) * nv (l.drop (i + 1)) = u
  generalize bs i * d = v
  generalize bs i * l[i] = w
  omega
theorem mul_bound {a b c r : Int} (a0 : 0 ≤ a) (a1 : a < 4294967296) (b0 : 0 ≤ b) (b1 : b < 4294967296) (c0 : 0 ≤ c) (c1 : c < 4294967296) (r0 : 0 ≤ r) (r1 : r < 4294967296) :
    IntKind.u64.wrap (c + IntKind.u64.wrap (IntKind.u64.wrap (IntKind.u64.wrap a * IntKind.u64.wrap b) + IntKind.u64.wrap r)) = c + a * b + r ∧ 0 ≤ c + a * b + r ∧ (c + a * b + r) / 4294967296 < 4294967296 := by
  have h0 := Int.mul_nonneg a0 b0
  have h1 : a * b ≤ 4294967295 * 4294967295 := by
    have e1 : a * b ≤ 4294967295 * b := Int.mul_le_mul_of_nonneg_right (by omega) b0
    have e2 : 4294967295 * b ≤ 4294967295 * 4294967295 := by omega
    omega
  have ea : IntKind.u64.wrap a = a := by rw [IntKind.wrap_u64]; omega
  have eb : IntKind.u64.wrap b = b := by rw [IntKind.wrap_u64]; omega
  rw [ea, eb]
  generalize a * b = p at *
  simp only [IntKind.wrap_u64]
  omega
theorem mul_alg {N c p r T s q m : Int} (hT : T = c + p + r) (hq : T = 4294967296 * q + m) : (N + s * (m - r)) + q * (4294967296 * s) = N + c * s + s * p := by
  have hm : m = c + p + r - 4294967296 * q := by omega
  subst hm
  rw [show s * (c + p + r - 4294967296 * q - r) = s * (c + (p - 4294967296 * q)) by congr 1; omega, Int.mul_add, Int.mul_sub, Int.mul_comm q, ← Int.mul_assoc s, Int.mul_comm s 4294967296, Int.mul_assoc 4294967296 s, Int.mul_comm c s]
  generalize s * c = a
  generalize s * p = b
  generalize s * q = d
  omega
/-- What the product must answer. -/
def Post (a b : List Int) (o : Option (List Int)) : Prop := ∃ r, o = some r ∧ nv r = nv a * nv b ∧ Nm r ∧ r.length ≤ a.length + b.length
theorem mul_l1 (a b : List Int) (ha : Dg a) (hb : Dg b) (hl : a.length + b.length ≤ 1099511627776) (i : Nat) (hi : i < a.length) (K : Nat) (V : Int) (Z : List Int)
    (hR : ∀ k r, K ≤ k → Dg r → r.length = a.length + b.length → nv r = V → r.drop (i + 1 + b.length) = Z → Post a b (bignum_mul.l0 k a b r ((i + 1 : Nat) : Int))) :
    ∀ e j k (r : List Int) (c : Int), j + e = b.length → K + e + 1 ≤ k → Dg r → (hrl : r.length = a.length + b.length) → 0 ≤ c → c < 4294967296 → (∀ h : i + b.length < r.length, r[i + b.length] = 0) → r.drop (i + 1 + b.length) = Z →
      nv r + c * bs (i + j) + bs i * (a[i] * (nv b - nv (b.take j))) = V → Post a b (bignum_mul.l1 k a b r (i : Int) c (j : Int)) := by
  intro e
  induction e with
  | zero =>
    intro j k r c hj hk hd hrl hc0 hc1 hz hZ hV
    obtain ⟨k, rfl⟩ : ∃ m, k = m + 1 := ⟨k - 1, by clear hV hz; omega⟩
    obtain rfl : j = b.length := by clear hV hz; omega
    have hlt : i + b.length < r.length := by clear hV hz; omega
    have q1 : (0 : Int) ≤ ((i + b.length : Nat) : Int) := by clear hV hz; omega
    have q2 : ((i + b.length : Nat) : Int) < (r.length : Int) := by clear hV hz; omega
    have q3 : K ≤ k := Nat.le_of_succ_le_succ hk
    have q4 : i + b.length < i + 1 + b.length := by clear hV hz; omega
    have hw : wrap64 ((i : Int) + (b.length : Int)) = ((i + b.length : Nat) : Int) := by clear hV hz; unfold wrap64; omega
    have hw1 : wrap64 ((i : Int) + 1) = ((i + 1 : Nat) : Int) := by clear hV hz hw; unfold wrap64; omega
    have hcm : c % 4294967296 = c := Int.emod_eq_of_lt hc0 hc1
    simp only [bignum_mul.l1]
    rw [if_neg (Int.lt_irrefl _), hw, if_pos q1, if_pos q2, Int.toNat_natCast, hw1, hcm]
    refine hR k (r.set (i + b.length) c) q3 (hd.set hc0 hc1) (by rw [List.length_set]; exact hrl) ?_ ?_
    · rw [nv_set hlt, hz hlt, ← hV, List.take_length, Int.sub_self, Int.mul_zero, Int.mul_zero, Int.add_zero, Int.sub_zero, Int.mul_comm]
    · rw [List.drop_set_of_lt q4]; exact hZ
  | succ e ih =>
    intro j k r c hj hk hd hrl hc0 hc1 hz hZ hV
    obtain ⟨k, rfl⟩ : ∃ m, k = m + 1 := ⟨k - 1, by clear hV hz; omega⟩
    have hjb : j < b.length := by clear hV hz; omega
    have hij : i + j < r.length := by clear hV hz; omega
    have p1 : (j : Int) < (b.length : Int) := by clear hV hz; omega
    have p2 : (0 : Int) ≤ (i : Int) := by clear hV hz; omega
    have p3 : (i : Int) < (a.length : Int) := by clear hV hz; omega
    have p4 : (0 : Int) ≤ (j : Int) := by clear hV hz; omega
    have p5 : (0 : Int) ≤ ((i + j : Nat) : Int) := by clear hV hz; omega
    have p6 : ((i + j : Nat) : Int) < (r.length : Int) := by clear hV hz; omega
    have g1 : j + 1 + e = b.length := by clear hV hz; omega
    have g2 : K + e + 1 ≤ k := Nat.le_of_succ_le_succ hk
    have g3 : i + j ≠ i + b.length := by clear hV hz; omega
    have g4 : i + j < i + 1 + b.length := by clear hV hz; omega
    have hw : wrap64 ((i : Int) + (j : Int)) = ((i + j : Nat) : Int) := by clear hV hz; unfold wrap64; omega
    have hw1 : wrap64 ((j : Int) + 1) = ((j + 1 : Nat) : Int) := by clear hV hz hw; unfold wrap64; omega
    have da := ha.at hi
    have db := hb.at hjb
    have dr := hd.at hij
    obtain ⟨hT, t0, t1⟩ := mul_bound da.1 da.2 db.1 db.2 hc0 hc1 dr.1 dr.2
    simp only [bignum_mul.l1]
    rw [if_pos p1, if_pos p2, if_pos p3, if_pos p4, hw, if_pos p5, if_pos p6, rd_nat hi, rd_nat hjb, rd_nat hij, hT, hw1, Int.toNat_natCast]
    have m0 : 0 ≤ (c + a[i] * b[j] + r[i + j]) % 4294967296 := Int.emod_nonneg _ (by decide)
    have m1 : (c + a[i] * b[j] + r[i + j]) % 4294967296 < 4294967296 := Int.emod_lt_of_pos _ (by decide)
    have m2 : 0 ≤ (c + a[i] * b[j] + r[i + j]) / 4294967296 := Int.ediv_nonneg t0 (by decide)
    refine ih (j + 1) k _ _ g1 g2 (hd.set m0 m1) (by rw [List.length_set]; exact hrl) m2 t1 ?_ ?_ ?_
    · intro h
      rw [List.getElem_set_ne g3]
      exact hz (by rw [List.length_set] at h; exact h)
    · rw [List.drop_set_of_lt g4]; exact hZ
    · rw [nv_set hij, ← Nat.add_assoc, bs_succ (i + j), mul_alg (c := c) (p := a[i] * b[j]) (r := r[i + j]) rfl (Int.mul_ediv_add_emod _ _).symm, nv_take_succ hjb, bs_add, ← hV]
      rw [bs_add, ← Int.sub_sub, Int.mul_sub (a[i]) (nv b - nv (b.take j)), Int.mul_sub (bs i)]
      have e1 : bs i * (a[i] * (bs j * b[j])) = bs i * bs j * (a[i] * b[j]) := by
        rw [Int.mul_left_comm a[i], Int.mul_assoc]
      rw [e1]
      generalize bs i * bs j * (a[i] * b[j]) = u
      generalize bs i * (a[i] * (nv b - nv (b.take j))) = v
      generalize c * (bs i * bs j) = w
      omega
theorem mul_l0 (a b : List Int) (ha : Dg a) (hb : Dg b) (hl : a.length + b.length ≤ 1099511627776) : ∀ d i k (r : List Int), i + d = a.length → d * (b.length + 3) + (a.length + b.length + 3) ≤ k → Dg r → r.length = a.length + b.length → nv r = nv (a.take i) * nv b → r.drop (i + b.length) = List.replicate d 0 →
    Post a b (bignum_mul.l0 k a b r (i : Int)) := by
  intro d
  induction d with
  | zero =>
    intro i k r hi hk hd hrl hv _
    obtain rfl : i = a.length := by clear hv; omega
    obtain ⟨k, rfl⟩ : ∃ m, k = m + 1 := ⟨k - 1, by clear hv; omega⟩
    obtain ⟨o, h1, h2, h3, h4⟩ := trim_f r hd (by clear hv; omega) k (by clear hv; omega)
    simp only [bignum_mul.l0]
    rw [if_neg (Int.lt_irrefl _), h1]
    exact ⟨o, rfl, by rw [h2, hv, List.take_length], h3, by rw [hrl] at h4; exact h4⟩
  | succ d ih =>
    intro i k r hi hk hd hrl hv hz
    rw [Nat.succ_mul] at hk
    obtain ⟨k, rfl⟩ : ∃ m, k = m + 1 := ⟨k - 1, by clear hv hz ih; omega⟩
    have hia : i < a.length := by clear hv hz ih; omega
    have p1 : (i : Int) < (a.length : Int) := by clear hv hz ih; omega
    have hkk : d * (b.length + 3) + (a.length + b.length + 3) + b.length + 1 ≤ k := by clear hv hz ih; omega
    have hlt : i + b.length < r.length := by clear hv hz ih; omega
    have g1 : i + 1 + d = a.length := by clear hv hz ih; omega
    have e : i + 1 + b.length = i + b.length + 1 := by clear hv hz ih; omega
    have hc : r[i + b.length] :: r.drop (i + b.length + 1) = 0 :: List.replicate d 0 := by rw [← List.drop_eq_getElem_cons hlt, hz, List.replicate_succ]
    obtain ⟨z0, z1⟩ := List.cons.inj hc
    simp only [bignum_mul.l0]
    rw [if_pos p1]
    refine mul_l1 a b ha hb hl i hia (d * (b.length + 3) + (a.length + b.length + 3)) (nv (a.take (i + 1)) * nv b) (List.replicate d 0) (fun k r hk hd hrl hv hz => ih (i + 1) k r g1 hk hd hrl hv hz) b.length 0 k r 0 (Nat.zero_add _) hkk hd hrl (Int.le_refl _) (by decide) (fun _ => z0) (by rw [e]; exact z1) ?_
    rw [hv, nv_take_succ hia, List.take_zero, nv_nil, Int.zero_mul, Int.add_zero, Int.sub_zero, Int.add_mul, Int.mul_assoc]
theorem mul_f (a b : List Int) (ha : Nm a) (hb : Nm b) (hl : a.length + b.length ≤ 1099511627776) (k : Nat) (hk : a.length * (b.length + 3) + (a.length + b.length + 4) ≤ k) : Post a b (bignum_mul.f k a b) := by
  obtain ⟨k, rfl⟩ : ∃ m, k = m + 1 := ⟨k - 1, by omega⟩
  have nilCase : nv a * nv b = 0 → Post a b (some []) := fun h => ⟨[], rfl, by rw [nv_nil, h], Nm.nil, by simp⟩
  unfold bignum_mul.f
  by_cases h0 : a = []
  · subst h0
    rw [if_pos (by simp)]
    simp only [bignum_mul.j0]
    rw [if_pos trivial]
    exact nilCase (by rw [nv_nil, Int.zero_mul])
  · have ha0 : a.length ≠ 0 := fun h => h0 (List.eq_nil_of_length_eq_zero h)
    rw [if_neg (by omega)]
    by_cases h1 : b = []
    · subst h1
      simp only [bignum_mul.j0]
      rw [if_pos (by simp)]
      exact nilCase (by rw [nv_nil, Int.mul_zero])
    · have hb0 : b.length ≠ 0 := fun h => h1 (List.eq_nil_of_length_eq_zero h)
      have hw : wrap64 ((a.length : Int) + (b.length : Int)) = ((a.length + b.length : Nat) : Int) := by clear hk; unfold wrap64; omega
      simp only [bignum_mul.j0]
      rw [if_neg (by simp; omega), hw, if_pos (by clear hw; omega), Int.toNat_natCast, if_pos (by clear hw hk; omega)]
      refine mul_l0 a b ha.1 hb.1 hl a.length 0 k _ (Nat.zero_add _) (by clear hw; omega) (Dg.zeros _) (List.length_replicate ..) (by rw [nv_zeros, List.take_zero, nv_nil, Int.zero_mul]) ?_
      rw [List.drop_replicate, Nat.zero_add, Nat.add_sub_cancel]
end Go.Proofs.YtaedkekjekbjmaaGreatDoor.XBn

/- Plain laws: bignum's printed shift to the left: one word's step. No memory. -/
namespace Go.Proofs.YtaedkekjekbjmaaGreatDoor.XBn
open Go Go.RowKit Go.Proofs.YtaedkekjekbjmaaGreatDoorW.PrintWords Go.Proofs.YtaedkekjekbjmaaGreatDoorW.PrintMore Nv
set_option maxRecDepth 100000

theorem or_add (s x q : Nat) (hx : x < 2 ^ s) (h1 : x < 4294967296) (hy : 2 ^ s * q < 4294967296) : bits .or .u32 (x : Int) ((2 ^ s * q : Nat) : Int) = ((x + 2 ^ s * q : Nat) : Int) := by
  rw [u32_or_nat _ _ h1 hy, Nat.or_comm, ← Nat.two_pow_add_eq_or_of_lt hx, Nat.add_comm]
theorem or_zero (x : Nat) (h1 : x < 4294967296) : bits .or .u32 0 (x : Int) = (x : Int) := by
  have := u32_or_nat 0 x (by decide) h1
  rw [Nat.zero_or] at this
  exact this
/-- A word moved by less than 32: what stays, what goes over. -/
theorem moved (a s : Nat) (ha : a < 4294967296) (hs : s < 32) : a * 2 ^ s < 18446744073709551616 ∧ (a * 2 ^ s) % 4294967296 = 2 ^ s * (a % 2 ^ (32 - s)) ∧ (a * 2 ^ s) / 4294967296 < 2 ^ s ∧ 2 ^ s * (a % 2 ^ (32 - s)) + 2 ^ s ≤ 4294967296 := by
  have e : (4294967296 : Nat) = 2 ^ s * 2 ^ (32 - s) := by rw [← Nat.pow_add, show s + (32 - s) = 32 by omega]
  have hp := Nat.two_pow_pos s
  have hp2 := Nat.two_pow_pos (32 - s)
  have hle : 2 ^ s ≤ 2 ^ 31 := Nat.pow_le_pow_right (by decide) (by omega)
  have h1 : a * 2 ^ s ≤ 4294967295 * 2 ^ 31 := Nat.mul_le_mul (by omega) hle
  refine ⟨Nat.lt_of_le_of_lt h1 (by decide), ?_, ?_, ?_⟩
  · rw [Nat.mul_comm a, e, Nat.mul_mod_mul_left]
  · rw [Nat.div_lt_iff_lt_mul (by decide), Nat.mul_comm (2 ^ s)]
    exact Nat.mul_lt_mul_of_pos_right ha hp
  · rw [e, ← Nat.mul_succ]
    exact Nat.mul_le_mul_left _ (Nat.succ_le_of_lt (Nat.mod_lt _ hp2))
theorem left_word (x a s : Nat) (hs : s < 32) (x1 : x < 2 ^ s) (a1 : a < 4294967296) :
    shl .u64 (IntKind.u64.wrap (a : Int)) (s : Int) = ((a * 2 ^ s : Nat) : Int) ∧ bits .or .u32 (x : Int) (((a * 2 ^ s : Nat) : Int) % 4294967296) = ((x + a * 2 ^ s % 4294967296 : Nat) : Int) ∧ x + a * 2 ^ s % 4294967296 < 4294967296 ∧
      bits .or .u32 0 (((a * 2 ^ s : Nat) : Int) / 4294967296 % 4294967296) = ((a * 2 ^ s / 4294967296 : Nat) : Int) ∧ a * 2 ^ s / 4294967296 < 2 ^ s ∧ a * 2 ^ s / 4294967296 < 4294967296 := by
  obtain ⟨h1, h2, h3, h4⟩ := moved a s a1 hs
  have hle : 2 ^ s ≤ 2 ^ 31 := Nat.pow_le_pow_right (by decide) (by omega)
  have hw : IntKind.u64.wrap (a : Int) = (a : Int) := by rw [IntKind.wrap_u64]; omega
  have e0 : ((a : Int) * 2 ^ s) = ((a * 2 ^ s : Nat) : Int) := by rw [Int.natCast_mul, Int.natCast_pow]; rfl
  refine ⟨?_, ?_, ?_, ?_, h3, by omega⟩
  · unfold shl
    rw [hw, Int.toNat_natCast, Nat.min_eq_left (by simp [IntKind.bits]; omega), e0, IntKind.wrap_u64]
    omega
  · rw [show (((a * 2 ^ s : Nat) : Int) % 4294967296) = ((a * 2 ^ s % 4294967296 : Nat) : Int) by omega, h2]
    exact or_add s x _ x1 (by omega) (by omega)
  · rw [h2]; omega
  · rw [show (((a * 2 ^ s : Nat) : Int) / 4294967296 % 4294967296) = ((a * 2 ^ s / 4294967296 : Nat) : Int) by omega]
    exact or_zero _ (by omega)
theorem left_words (x a s : Nat) (hs : s < 32) (x1 : x < 2 ^ s) (a1 : a < 4294967296) : ∃ L H m : Nat,
    bits .or .u32 (x : Int) (shl .u64 (IntKind.u64.wrap (a : Int)) (s : Int) % 4294967296) = (L : Int) ∧ bits .or .u32 0 (shl .u64 (IntKind.u64.wrap (a : Int)) (s : Int) / 4294967296 % 4294967296) = (H : Int) ∧
      L = x + m ∧ a * 2 ^ s = 4294967296 * H + m ∧ (L : Int) < 4294967296 ∧ H < 2 ^ s ∧ (H : Int) < 4294967296 := by
  obtain ⟨q1, q2, q3, q4, q5, q6⟩ := left_word x a s hs x1 a1
  refine ⟨x + a * 2 ^ s % 4294967296, a * 2 ^ s / 4294967296, a * 2 ^ s % 4294967296, ?_, ?_, rfl, (Nat.div_add_mod ..).symm, ?_, q5, ?_⟩
  · rw [q1, q2]
  · rw [q1, q4]
  · clear q1 q2 q4; omega
  · clear q1 q2 q4; omega
theorem cast_eq {A s H m : Nat} (h : A * 2 ^ s = 4294967296 * H + m) : (A : Int) * 2 ^ s = 4294967296 * (H : Int) + (m : Int) := by
  have e : ((A * 2 ^ s : Nat) : Int) = ((4294967296 * H + m : Nat) : Int) := congrArg _ h
  rw [Int.natCast_mul, Int.natCast_pow, Int.natCast_add, Int.natCast_mul] at e
  exact e
theorem lt_of_w {A : Nat} (h : (A : Int) < 4294967296) : A < 4294967296 := by omega
theorem left_alg {N v q m s : Int} (h : v = 4294967296 * q + m) : N + s * m + 4294967296 * s * q = N + s * v := by
  subst h
  rw [Int.mul_add, Int.mul_comm 4294967296 s, Int.mul_assoc]
  generalize s * (4294967296 * q) = u
  generalize s * m = z
  omega
theorem left_l0 (a : List Int) (ha : Dg a) (w s : Nat) (hs : s < 32) (hl : a.length + w + 1 ≤ 1099511627776) : ∀ d i k (r : List Int), i + d = a.length → d + (a.length + w + 1) + 2 ≤ k → Dg r → r.length = a.length + w + 1 → nv r = nv (a.take i) * (2 ^ s * bs w) → (∀ h : i + w < r.length, r[i + w] < 2 ^ s) → r.drop (i + w + 1) = List.replicate d 0 →
    ∃ o, bignum_left.l0 k a (w : Int) (s : Int) r (i : Int) = some o ∧ nv o = nv a * (2 ^ s * bs w) ∧ Nm o ∧ o.length ≤ a.length + w + 1 := by
  intro d
  induction d with
  | zero =>
    intro i k r hi hk hd hrl hv _ _
    obtain rfl : i = a.length := by clear hv; omega
    obtain ⟨k, rfl⟩ : ∃ m, k = m + 1 := ⟨k - 1, by clear hv; omega⟩
    obtain ⟨o, h1, h2, h3, h4⟩ := trim_f r hd (by clear hv; omega) k (by clear hv; omega)
    simp only [bignum_left.l0]
    rw [if_neg (Int.lt_irrefl _), h1]
    exact ⟨o, rfl, by rw [h2, hv, List.take_length], h3, by rw [hrl] at h4; exact h4⟩
  | succ d ih =>
    intro i k r hi hk hd hrl hv hx hz
    obtain ⟨k, rfl⟩ : ∃ m, k = m + 1 := ⟨k - 1, by clear hv hz hx ih; omega⟩
    have hia : i < a.length := by clear hv hz hx ih; omega
    have hlt : i + w < r.length := by clear hv hz hx ih; omega
    have hlt2 : i + w + 1 < r.length := by clear hv hz hx ih; omega
    have p1 : (i : Int) < (a.length : Int) := by clear hv hz hx ih; omega
    have p2 : (0 : Int) ≤ (i : Int) := by clear hv hz hx ih; omega
    have p3 : (0 : Int) ≤ (s : Int) := by clear hv hz hx ih; omega
    have p4 : (0 : Int) ≤ ((i + w : Nat) : Int) := by clear hv hz hx ih; omega
    have p5 : ((i + w : Nat) : Int) < (r.length : Int) := by clear hv hz hx ih; omega
    have p6 : (0 : Int) ≤ ((i + w + 1 : Nat) : Int) := by clear hv hz hx ih; omega
    have p7 : ((i + w + 1 : Nat) : Int) < (r.length : Int) := by clear hv hz hx ih; omega
    have g1 : i + 1 + d = a.length := by clear hv hz hx ih; omega
    have g2 : d + (a.length + w + 1) + 2 ≤ k := by clear hv hz hx ih; omega
    have g3 : i + 1 + w = i + w + 1 := by clear hv hz hx ih; omega
    have g4 : i + w ≠ i + w + 1 := by clear hv hz hx ih; omega
    have g5 : i + w < i + w + 1 + 1 := by clear hv hz hx ih; omega
    have g6 : i + w + 1 < i + w + 1 + 1 := by clear hv hz hx ih; omega
    have hw : wrap64 ((i : Int) + (w : Int)) = ((i + w : Nat) : Int) := by clear hv hz hx ih; unfold wrap64; omega
    have hw1 : wrap64 ((i : Int) + 1) = ((i + 1 : Nat) : Int) := by clear hv hz hx ih hw; unfold wrap64; omega
    have hw2 : wrap64 (((i + w : Nat) : Int) + 1) = ((i + w + 1 : Nat) : Int) := by clear hv hz hx ih hw hw1; unfold wrap64; omega
    have hc : r[i + w + 1] :: r.drop (i + w + 1 + 1) = 0 :: List.replicate d 0 := by rw [← List.drop_eq_getElem_cons hlt2, hz, List.replicate_succ]
    obtain ⟨z0, z1⟩ := List.cons.inj hc
    have da := ha.at hia
    have dx := hd.at hlt
    have hxi := hx hlt
    obtain ⟨A, hA⟩ : ∃ A : Nat, a[i] = (A : Int) := ⟨a[i].toNat, (Int.toNat_of_nonneg da.1).symm⟩
    obtain ⟨X, hX⟩ : ∃ X : Nat, r[i + w] = (X : Int) := ⟨r[i + w].toNat, (Int.toNat_of_nonneg dx.1).symm⟩
    have hXs : X < 2 ^ s := by rw [hX] at hxi; exact_mod_cast hxi
    have hA1 : A < 4294967296 := lt_of_w (by rw [← hA]; exact da.2)
    obtain ⟨L, H, m, q1, q2, q3, q4, q5, q6, q7⟩ := left_words X A s hs hXs hA1
    have hy : i + w + 1 < (r.set (i + w) (L : Int)).length := by rw [List.length_set]; exact hlt2
    have hy0 : (r.set (i + w) (L : Int))[i + w + 1] = 0 := by rw [List.getElem_set_ne g4]; exact z0
    simp only [bignum_left.l0]
    rw [if_pos p1, if_pos p2, if_pos p3, hw, if_pos p4, if_pos p5, Option.bind_some]
    rw [hw2, if_pos p6, if_pos p7, hw1, Int.toNat_natCast, Int.toNat_natCast, rd_nat hlt, rd_nat hia, hA, hX, q1, rd_nat hy, hy0, q2]
    clear q1 q2 hw hw1 hw2
    refine ih (i + 1) k ((r.set (i + w) (L : Int)).set (i + w + 1) (H : Int)) g1 g2 ((hd.set (Int.natCast_nonneg _) q5).set (Int.natCast_nonneg _) q7) (by rw [List.length_set, List.length_set]; exact hrl) ?_ ?_ ?_
    · rw [nv_set hy, hy0, nv_set hlt, hX, nv_take_succ hia, hA, hv]
      have e1 : (L : Int) - (X : Int) = (m : Int) := by rw [q3, Int.natCast_add]; generalize (X : Int) = u; generalize (m : Int) = v; omega
      have e2 : (A : Int) * 2 ^ s = 4294967296 * (H : Int) + (m : Int) := cast_eq q4
      rw [e1, Int.sub_zero, bs_succ (i + w), left_alg e2, bs_add, Int.add_mul]
      congr 1
      ac_rfl
    · intro h
      have e1 : ((r.set (i + w) (L : Int)).set (i + w + 1) (H : Int))[i + 1 + w] = (H : Int) := by
        simp only [g3, List.getElem_set_self]
      rw [e1]
      exact_mod_cast q6
    · rw [g3, List.drop_set_of_lt g6, List.drop_set_of_lt g5]
      exact z1
theorem pow_bs (w : Nat) : (2 : Int) ^ (32 * w) = bs w := by
  induction w with
  | zero => rw [bs_zero]; rfl
  | succ w ih => rw [bs_succ, Nat.mul_succ, Int.pow_add, ih, Int.mul_comm]; rfl
theorem left_f (a : List Int) (ha : Dg a) (n : Nat) (hn : n ≤ 4294967296) (hl : a.length ≤ 549755813888) (k : Nat) (hk : 2 * a.length + n + 8 ≤ k) : ∃ o, bignum_left.f k a (n : Int) = some o ∧ nv o = nv a * 2 ^ n ∧ Nm o ∧ o.length ≤ a.length + n / 32 + 1 := by
  unfold bignum_left.f
  by_cases h0 : a = []
  · subst h0
    rw [if_pos (by simp)]
    exact ⟨[], rfl, by rw [nv_nil, Int.zero_mul], Nm.nil, by simp⟩
  · have ha0 : a.length ≠ 0 := fun h => h0 (List.eq_nil_of_length_eq_zero h)
    rw [if_neg (by omega)]
    have e1 : Int.tdiv (n : Int) 32 = ((n / 32 : Nat) : Int) := by rw [Int.tdiv_eq_ediv_of_nonneg (Int.natCast_nonneg _)]; omega
    have e2 : Int.tmod (n : Int) 32 = ((n % 32 : Nat) : Int) := by rw [Int.tmod_eq_emod_of_nonneg (Int.natCast_nonneg _)]; omega
    rw [e1, e2]
    clear e1 e2
    have hs : n % 32 < 32 := Nat.mod_lt _ (by decide)
    have hnn : n = n % 32 + 32 * (n / 32) := by omega
    have hwl : n / 32 ≤ 134217728 := by omega
    have hk2 : a.length + (a.length + n / 32 + 1) + 2 ≤ k := by omega
    have e3 : wrap64 (IntKind.u64.wrap ((n / 32 : Nat) : Int)) = ((n / 32 : Nat) : Int) := by rw [IntKind.wrap_u64]; unfold wrap64; omega
    rw [e3]
    clear e3
    have pw : (2 : Int) ^ n = 2 ^ (n % 32) * bs (n / 32) := by rw [← pow_bs, ← Int.pow_add, ← hnn]
    rw [pw]
    clear pw hnn hk
    generalize n % 32 = s at *
    generalize n / 32 = w at *
    have e4 : wrap64 ((a.length : Int) + (w : Int)) = ((a.length + w : Nat) : Int) := by unfold wrap64; omega
    rw [e4]
    clear e4
    have e5 : wrap64 (((a.length + w : Nat) : Int) + 1) = ((a.length + w + 1 : Nat) : Int) := by unfold wrap64; omega
    rw [e5]
    clear e5
    rw [if_pos (by omega), Int.toNat_natCast, if_pos (by omega)]
    refine left_l0 a ha w s hs (by omega) a.length 0 k _ (Nat.zero_add _) hk2 (Dg.zeros _) (List.length_replicate ..) (by rw [nv_zeros, List.take_zero, nv_nil, Int.zero_mul]) (fun h => ?_) ?_
    · rw [List.getElem_replicate]
      exact Int.pow_pos (by decide)
    · rw [List.drop_replicate]
      congr 1
      omega
end Go.Proofs.YtaedkekjekbjmaaGreatDoor.XBn

/- Plain laws: bignum's sum of words. No memory. -/
namespace Go.Proofs.YtaedkekjekbjmaaGreatDoor.XBn
open Go Go.RowKit Go.Proofs.YtaedkekjekbjmaaGreatDoorW.PrintWords Nv
set_option maxRecDepth 100000

theorem aw0 {c a : Int} (c0 : 0 ≤ c) (c1 : c ≤ 1) (a0 : 0 ≤ a) (a1 : a < 4294967296) : IntKind.u64.wrap (c + IntKind.u64.wrap a) = c + a := by simp only [IntKind.wrap_u64]; omega
theorem aw1 {c a b : Int} (c0 : 0 ≤ c) (c1 : c ≤ 1) (a0 : 0 ≤ a) (a1 : a < 4294967296) (b0 : 0 ≤ b) (b1 : b < 4294967296) : IntKind.u64.wrap (IntKind.u64.wrap (c + IntKind.u64.wrap a) + IntKind.u64.wrap b) = c + a + b := by simp only [IntKind.wrap_u64]; omega
theorem add_alg {X A B c q s m t ai y : Int} (h : X + c * s = A + B) (e : t = m + 4294967296 * q) (ht : t = c + ai + y) : X + s * m + q * (4294967296 * s) = A + s * ai + (B + s * y) := by
  have e1 : s * t = s * m + q * (4294967296 * s) := by
    rw [e, Int.mul_add, ← Int.mul_assoc s, Int.mul_comm s 4294967296, Int.mul_comm q]
  have e2 : s * t = c * s + s * ai + s * y := by rw [ht, Int.mul_add, Int.mul_add, Int.mul_comm s c]
  omega
theorem add_l0 (a b : List Int) (ha : Dg a) (hb : Dg b) (hl : a.length ≤ 1099511627776) (hbl : b.length ≤ a.length) :
    ∀ d i k (x : List Int) (c : Int), i + d = a.length → d + a.length + 3 < k → x.length = a.length + 1 → Dg x → (0 ≤ c ∧ c ≤ 1) → nv (x.take i) + c * bs i = nv (a.take i) + nv (b.take i) →
      ∃ r, bignum_add.l0 k a b x c (i : Int) = some r ∧ nv r = nv a + nv b ∧ Nm r ∧ r.length ≤ a.length + 1 := by
  intro d
  induction d with
  | zero =>
    intro i k x c hi hk hx hdx hc hinv
    obtain ⟨k, rfl⟩ : ∃ m, k = m + 1 := ⟨k - 1, by omega⟩
    obtain rfl : i = a.length := by omega
    have hcm : c % 4294967296 = c := by omega
    have hlt : a.length < x.length := by omega
    obtain ⟨r, h1, h2, h3, h4⟩ := trim_f (x.set a.length c) (hdx.set hc.1 (by omega)) (by rw [List.length_set]; omega) k (by rw [List.length_set]; omega)
    simp only [bignum_add.l0]
    rw [if_neg (by omega), if_pos (by omega), if_pos (by omega), hcm, Int.toNat_natCast, h1]
    have e1 : (x.set a.length c).take (a.length + 1) = x.set a.length c := List.take_of_length_le (by rw [List.length_set]; omega)
    have e2 : b.take a.length = b := List.take_of_length_le hbl
    have hlt2 : a.length < (x.set a.length c).length := by rw [List.length_set]; exact hlt
    have e3 := nv_take_succ hlt2
    rw [e1, take_set_ge (Nat.le_refl _), List.getElem_set_self] at e3
    rw [List.take_length, e2, Int.mul_comm] at hinv
    exact ⟨r, rfl, by rw [h2, e3, hinv], h3, by rw [List.length_set] at h4; omega⟩
  | succ d ih =>
    intro i k x c hi hk hx hdx hc hinv
    obtain ⟨k, rfl⟩ : ∃ m, k = m + 1 := ⟨k - 1, by omega⟩
    have hia : i < a.length := by omega
    have g1 : i + 1 + d = a.length := by omega
    have g2 : d + a.length + 3 < k := by clear ih hinv hc hl; omega
    have hw : wrap64 ((i : Int) + 1) = ((i + 1 : Nat) : Int) := by unfold wrap64; omega
    have da := ha.at hia
    have step : ∀ (y : Int), 0 ≤ y → y < 4294967296 → (nv (b.take (i + 1)) = nv (b.take i) + bs i * y) →
        ∀ t, t = c + a[i] + y → ∃ r, bignum_add.l0 k a b (x.set i (t % 4294967296)) (t / 4294967296) ((i + 1 : Nat) : Int) = some r ∧ nv r = nv a + nv b ∧ Nm r ∧ r.length ≤ a.length + 1 := by
      intro y h0 h1 hy t ht
      have g3 : (x.set i (t % 4294967296)).length = a.length + 1 := by rw [List.length_set]; exact hx
      have m0 : 0 ≤ t % 4294967296 := Int.emod_nonneg _ (by decide)
      have m1 : t % 4294967296 < 4294967296 := Int.emod_lt_of_pos _ (by decide)
      have g4 : Dg (x.set i (t % 4294967296)) := hdx.set m0 m1
      have g5 : 0 ≤ t / 4294967296 ∧ t / 4294967296 ≤ 1 := by clear ih hinv hy g3 g4 m0 m1; omega
      refine ih (i + 1) k (x.set i (t % 4294967296)) (t / 4294967296) g1 g2 g3 g4 g5 ?_
      clear g3 g4 g5
      have hxi : i < (x.set i (t % 4294967296)).length := by rw [List.length_set, hx]; exact Nat.lt_succ_of_lt hia
      rw [nv_take_succ hxi, take_set_ge (Nat.le_refl _), List.getElem_set_self, nv_take_succ hia, hy, bs_succ]
      exact add_alg hinv (Int.emod_add_mul_ediv t 4294967296).symm ht
    have j1 : (i : Int) < (a.length : Int) := by clear step ih hinv; omega
    have j2 : (0 : Int) ≤ (i : Int) := by clear step ih hinv; omega
    have j3 : (i : Int) < (x.length : Int) := by clear step ih hinv; omega
    have j4 : ¬ i < b.length → ¬ (i : Int) < (b.length : Int) := by clear step ih hinv; omega
    have j5 : i < b.length → (i : Int) < (b.length : Int) := by clear step ih hinv; omega
    clear ih hinv g1 g2 hk hi hbl hl
    simp only [bignum_add.l0]
    rw [if_pos j1, if_pos j2, rd_nat hia, hw, Int.toNat_natCast]
    by_cases hib : i < b.length
    · have db := hb.at hib
      rw [if_pos (j5 hib), if_pos j3, rd_nat hib]
      have hs := step b[i] db.1 db.2 (nv_take_succ hib) _ rfl
      have e1 := aw1 hc.1 hc.2 da.1 da.2 db.1 db.2
      clear step
      rw [e1]
      exact hs
    · rw [if_neg (j4 hib), if_pos j3]
      have hs := step 0 (by omega) (by omega) (by rw [List.take_of_length_le (by omega), List.take_of_length_le (by omega)]; simp) _ rfl
      have e1 := aw0 hc.1 hc.2 da.1 da.2
      clear step
      rw [e1]
      rw [Int.add_zero] at hs
      exact hs
theorem add_f (a b : List Int) (ha : Dg a) (hb : Dg b) (hl : a.length ≤ 1099511627776) (hbl : b.length ≤ a.length) (k : Nat) (hk : 2 * a.length + 4 < k) :
    ∃ r, bignum_add.f k a b = some r ∧ nv r = nv a + nv b ∧ Nm r ∧ r.length ≤ a.length + 1 := by
  have e : wrap64 ((a.length : Int) + 1) = ((a.length + 1 : Nat) : Int) := by unfold wrap64; omega
  unfold bignum_add.f
  rw [e, if_pos (by omega), Int.toNat_natCast, if_pos (by omega)]
  exact add_l0 a b ha hb hl hbl a.length 0 k _ 0 (by omega) (by omega) (by simp) (Dg.zeros _) ⟨by decide, by decide⟩ (by simp [nv_nil])
end Go.Proofs.YtaedkekjekbjmaaGreatDoor.XBn

/- Slices of words as numbers: what bignum's functions on words do. -/
namespace Go.Proofs.YtaedkekjekbjmaaGreatDoor
open Go Go.RowKit Nv
open Go.Proofs.YtaedkekjekbjmaaGreatDoorW.PrintWords (Kd Drawn0)
open XBn
set_option maxRecDepth 100000

/-- A slice of words that is a number. -/
def Wd (w : World) (v : Value) (n : Int) : Prop := ∃ A c l, v = .slice A l.length c ∧ l.length ≤ c ∧ Kd.C (Kd.int .u32) w A l.length l ∧ Nm l ∧ nv l = n
/-- Not too great for this machine. -/
def Sm (n : Int) : Prop := n < bs 1000000
theorem len_of {l : List Int} (h : Nm l) (hs : Sm (nv l)) : l.length ≤ 1000000 := by
  rcases Nat.lt_or_ge 1000000 l.length with h1 | h1
  · have h2 := h.lower (by intro e; rw [e] at h1; simp at h1)
    have h3 := bs_le (show 1000000 ≤ l.length - 1 by omega)
    unfold Sm at hs; omega
  · exact h1
theorem Wd.below {w w1 : World} {v : Value} {n : Int} (h : Wd w v n) (hb : Below w.heap.size w w1) : Wd w1 v n := by
  obtain ⟨A, c, l, rfl, hl, hC, hN, hn⟩ := h
  exact ⟨A, c, l, rfl, hl, Kd.C_below hC hb, hN, hn⟩
theorem Wd.nil (w : World) : Wd w (.slice none 0 0) 0 := ⟨none, 0, [], rfl, Nat.le_refl _, ⟨rfl, by simp, fun h => absurd h (Nat.lt_irrefl 0)⟩, Nm.nil, nv_nil⟩
theorem Wd.nonneg {w : World} {v : Value} {n : Int} (h : Wd w v n) : 0 ≤ n := by
  obtain ⟨A, c, l, rfl, hl, hC, hN, rfl⟩ := h
  exact nv_nonneg hN.1
def WPost (n : Int) (w : World) (e : Ending) (w' : World) : Prop := ∃ v, e = .returned v ∧ Wd w' v n ∧ Below w.heap.size w w'
theorem wd_of {w : World} {b : Nat} {ok : Nat → Prop} {v : Value} {r : List Int} {n : Int} (h : Kd.R (Kd.int .u32) 108 w b ok v r) (hN : Nm r) (hn : nv r = n) : Wd w v n := by
  obtain ⟨A, c, rfl, hl, hC⟩ := Kd.R_reads h
  exact ⟨A, c, r, rfl, hl, hC, hN, hn⟩
theorem words_w (x : Nat) (hx : x < 18446744073709551616) (w : World) : Calls Tryz.prog 70 #[.int .u64 x] w (WPost x w) := by
  obtain ⟨r, h1, h2, h3, h4⟩ := words_f x hx 10 (by omega)
  refine (bignum_words.calls 10 x r w h1).mono ?_
  rintro e w' ⟨v, rfl, hR, hb⟩
  exact ⟨v, rfl, wd_of hR h3 h2, hb⟩
theorem left_w {w : World} {v : Value} {a : Int} (h : Wd w v a) (hs : Sm a) (n : Nat) (hn : n ≤ 10000000) : Calls Tryz.prog 71 #[v, .int .u64 n] w (WPost (a * 2 ^ n) w) := by
  obtain ⟨A, c, l, rfl, hl, hC, hN, rfl⟩ := h
  have hlen := len_of hN hs
  obtain ⟨r, h1, h2, h3, h4⟩ := left_f l hN.1 n (by omega) (by omega) (2 * l.length + n + 8) (Nat.le_refl _)
  refine (bignum_left.calls _ A c l n r w hC hl h1).mono ?_
  rintro e w' ⟨v, rfl, hR, hb⟩
  exact ⟨v, rfl, wd_of hR h3 h2, hb⟩
theorem mul_w {w : World} {u v : Value} {a b : Int} (h : Wd w u a) (k : Wd w v b) (hs : Sm a) (ks : Sm b) : Calls Tryz.prog 75 #[u, v] w (WPost (a * b) w) := by
  obtain ⟨A, c, l, rfl, hl, hC, hN, rfl⟩ := h
  obtain ⟨B, d, m, rfl, km, kC, kN, rfl⟩ := k
  have hlen := len_of hN hs
  have klen := len_of kN ks
  obtain ⟨r, h1, h2, h3, h4⟩ := mul_f l m hN kN (by omega) _ (Nat.le_refl _)
  refine (bignum_mul.calls _ A c l B d m r w hC hl kC km h1).mono ?_
  rintro e w' ⟨v, rfl, hR, hb⟩
  exact ⟨v, rfl, wd_of hR h3 h2, hb⟩
theorem sub_w {w : World} {u v : Value} {a b : Int} (h : Wd w u a) (k : Wd w v b) (hs : Sm a) (hle : b ≤ a) : Calls Tryz.prog 90 #[u, v] w (WPost (a - b) w) := by
  obtain ⟨A, c, l, rfl, hl, hC, hN, rfl⟩ := h
  obtain ⟨B, d, m, rfl, km, kC, kN, rfl⟩ := k
  have hlen := len_of hN hs
  obtain ⟨r, h1, h2, h3, h4⟩ := sub_f l m hN.1 kN (by omega) hle _ (Nat.lt_succ_self _)
  refine (bignum_sub.calls _ A c l B d m r w hC hl kC km h1).mono ?_
  rintro e w' ⟨v, rfl, hR, hb⟩
  exact ⟨v, rfl, wd_of hR h3 h2, hb⟩
theorem cmp_w {w : World} {u v : Value} {a b : Int} (h : Wd w u a) (k : Wd w v b) (hs : Sm a) : Calls Tryz.prog 89 #[u, v] w fun e w' => e = .returned (.int .i64 (if a < b then -1 else if b < a then 1 else 0)) ∧ Below w.heap.size w w' := by
  obtain ⟨A, c, l, rfl, hl, hC, hN, rfl⟩ := h
  obtain ⟨B, d, m, rfl, km, kC, kN, rfl⟩ := k
  have hlen := len_of hN hs
  refine (bignum_cmp.calls _ A c l B d m _ w hC hl kC km (cmp_f l m hN kN (by omega) _ (Nat.lt_succ_self _))).mono ?_
  rintro e w' ⟨rfl, hd⟩
  exact ⟨rfl, hd.below⟩
theorem add_w {w : World} {u v : Value} {a b : Int} (h : Wd w u a) (k : Wd w v b) (hs : Sm a) (ks : Sm b) : Calls Tryz.prog 88 #[u, v] w (WPost (a + b) w) := by
  obtain ⟨A, c, l, rfl, hl, hC, hN, rfl⟩ := h
  obtain ⟨B, d, m, rfl, km, kC, kN, rfl⟩ := k
  have hlen := len_of hN hs
  have klen := len_of kN ks
  rcases Nat.lt_or_ge l.length m.length with hlt | hge
  · obtain ⟨r, h1, h2, h3, h4⟩ := add_f m l kN.1 hN.1 (by omega) (by omega) _ (Nat.lt_succ_self _)
    refine (bignum_add.swap _ B d m A c l r w kC km hC hl (decide_eq_true hlt) h1).mono ?_
    rintro e w' ⟨v, rfl, hR, hb⟩
    exact ⟨v, rfl, wd_of hR h3 (by rw [h2, Int.add_comm]), hb⟩
  · obtain ⟨r, h1, h2, h3, h4⟩ := add_f l m hN.1 kN.1 (by omega) hge _ (Nat.lt_succ_self _)
    refine (bignum_add.calls _ A c l B d m r w hC hl kC km (decide_eq_false (by omega)) h1).mono ?_
    rintro e w' ⟨v, rfl, hR, hb⟩
    exact ⟨v, rfl, wd_of hR h3 h2, hb⟩
end Go.Proofs.YtaedkekjekbjmaaGreatDoor

/- Whole numbers behind pointers: bignum's Int. -/
namespace Go.Proofs.YtaedkekjekbjmaaGreatDoor
open Go Go.RowKit Nv
open Go.Proofs.YtaedkekjekbjmaaGreatDoorW.PrintWords (Kd Drawn0 OwnRow Reps)
open XBn (info108)
set_option maxRecDepth 100000

theorem map_reps (l : List Int) : Reps (fun x cs => cs = [Value.int .u32 x]) 1 l (l.map (Value.int .u32)) := by
  refine ⟨by simp, fun j p hp => ?_⟩
  have hj := (List.getElem?_eq_some_iff.1 hp).1
  have hv := (List.getElem?_eq_some_iff.1 hp).2
  rw [Nat.mul_one, ← List.map_drop, ← List.map_take, List.drop_eq_getElem_cons hj, hv]; rfl
theorem own_int {w : World} {B : Nat} {v : Value} {l : List Int} (h : w.ownsRow B 108 1 v l.length (l.map (Value.int .u32))) : ∃ A c, v = .slice A l.length c ∧ l.length ≤ c ∧ Kd.C (Kd.int .u32) w A l.length l :=
  OwnRow.reads ⟨_, h, map_reps l⟩
theorem twin_w {w : World} {v : Value} {a : Int} (h : Wd w v a) (hs : Sm a) : Calls Tryz.prog 72 #[v] w (WPost a w) := by
  obtain ⟨A, c, l, rfl, hl, hC, hN, rfl⟩ := h
  have hlen := len_of hN hs
  obtain ⟨i0, hi, hzz⟩ := Option.map_eq_some_iff.1 info108
  simp only [Prod.mk.injEq] at hzz
  obtain ⟨hz0, hz1, hz2⟩ := hzz
  have HN := Lib.hid hN
  have HC := Lib.hid hC
  clear hN hC hs
  rcases Nat.eq_zero_or_pos l.length with h0 | h0
  · obtain rfl := List.eq_nil_of_length_eq_zero h0
    cases A
    all_goals
      go_enter Tryz.func72, Tryz.ntmps72
      go_wp2
      go_ret
      exact ⟨.slice none 0 0, rfl, by rw [nv_nil]; exact Wd.nil _, Below.refl _ _⟩
  · obtain ⟨ad, rfl, hc⟩ := HC.out.2.2 h0
    have hnews : ∀ j u, (l.map (Value.int .u32))[j]? = some u → w.cell? (ad.add j) = some u := by
      intro j u hu
      rw [List.getElem?_map] at hu
      obtain ⟨p, hp, rfl⟩ := Option.map_eq_some_iff.1 hu
      obtain ⟨cs, _, rfl, hcs⟩ := hc j p hp
      have := hcs 0 _ rfl
      rw [show (Kd.int IntKind.u32).sz = 1 from rfl] at this
      simpa using this
    have HW := Lib.hid hnews
    clear hc hnews
    go_enter Tryz.func72, Tryz.ntmps72
    go_wp2_with (first
      | (at_builtin; refine wpList_append_own _ rfl _ _ 78 rfl w.heap.size 108 i0 (.int .u32 0) 1 4 Tryz.underlying78 hi hz0 hz1 hz2 rfl (by decide) (.slice none 0 0) 0 [] rfl (World.ownsRow_nil w _ 108 1) ad l.length c (l.map (Value.int .u32)) rfl (by simp) HW.out (fun u hu => by obtain ⟨x, _, rfl⟩ := List.mem_map.1 hu; rfl) (by unfold maxLen; omega) (by omega) (Nat.le_refl _) ?_; intro v1 w1 hown hg _; have HO := Lib.hid hown; have HB := Lib.hid ((Below.refl w.heap.size w).grown hg (Nat.le_refl _) (fun k h => by cases h)); clear hown hg))
    go_ret
    have hown := HO.out
    rw [Nat.zero_add, List.nil_append] at hown
    obtain ⟨A1, c1, rfl, h1, h2⟩ := own_int hown
    exact ⟨_, rfl, ⟨A1, c1, l, rfl, h1, h2, HN.out, rfl⟩, HB.out⟩

/-- But for one block all is as it was. -/
structure Bz (g : Nat) (w w' : World) : Prop where
  os : w'.os = w.os
  tape : w'.tape = w.tape
  output : w'.output = w.output
  size : w.heap.size ≤ w'.heap.size
  block : ∀ k, k < w.heap.size → k ≠ g → w'.heap[k]? = w.heap[k]?
theorem Bz.of {g : Nat} {w w' : World} (h : Below w.heap.size w w') : Bz g w w' := ⟨h.os, h.tape, h.output, h.size, fun k hk _ => h.block k hk⟩
theorem Bz.trans {g : Nat} {a b c : World} (h : Bz g a b) (k : Bz g b c) : Bz g a c :=
  ⟨k.os.trans h.os, k.tape.trans h.tape, k.output.trans h.output, Nat.le_trans h.size k.size, fun i hi hg => (k.block i (Nat.lt_of_lt_of_le hi h.size) hg).trans (h.block i hi hg)⟩
theorem Bz.set {g : Nat} {a b : World} (h : Bz g a b) (i : Nat) (u : Value) : Bz g a (b.setCell ⟨g, i, none⟩ u) :=
  h.trans ⟨rfl, rfl, rfl, by simp [World.setCell], fun k _ hk => Below.heap_setCell b ⟨g, i, none⟩ u k hk⟩
theorem Bz.drewN {g : Nat} {a b : World} (h : Bz g a b) (n : Nat) : Bz g a (b.drewN n) := ⟨h.os, h.tape, h.output, h.size, h.block⟩
theorem Bz.below {g B : Nat} {w0 w w' : World} (h : Below B w0 w) (k : Bz g w w') (hB : B ≤ w.heap.size) (hg : B ≤ g) : Below B w0 w' :=
  ⟨k.os.trans h.os, k.tape.trans h.tape, k.output.trans h.output, Nat.le_trans h.size k.size, fun i hi => (k.block i (by omega) (by omega)).trans (h.block i hi)⟩
/-- A number's block. -/
def IntB (w : World) (b : Nat) (ng : Bool) (sl : Value) : Prop := w.heap[b]? = some (.cells #[.bool ng, sl] 80 (0, 0))
theorem IntB.c0 {w : World} {b : Nat} {ng : Bool} {sl : Value} (h : IntB w b ng sl) : w.cell? ⟨b, 0, none⟩ = some (.bool ng) := kb_cell h rfl
theorem IntB.c1 {w : World} {b : Nat} {ng : Bool} {sl : Value} (h : IntB w b ng sl) : w.cell? ⟨b, 1, none⟩ = some sl := kb_cell h rfl
theorem IntB.fz {w : World} {b : Nat} {ng : Bool} {sl : Value} (h : IntB w b ng sl) (i : Nat) : w.frozen? ⟨b, i, none⟩ = false := kb_frozen h i
theorem IntB.lt {w : World} {b : Nat} {ng : Bool} {sl : Value} (h : IntB w b ng sl) : b < w.heap.size := kb_lt h
def sg (ng : Bool) (n : Int) : Int := if ng then -n else n
/-- The block is the number. -/
def IntAt (w : World) (b : Nat) (v : Int) : Prop := ∃ ng sl n, IntB w b ng sl ∧ Wd w sl n ∧ (ng = true → n ≠ 0) ∧ v = sg ng n
theorem IntAt.lt {w : World} {b : Nat} {v : Int} (h : IntAt w b v) : b < w.heap.size := by obtain ⟨ng, sl, n, h, _⟩ := h; exact h.lt
theorem add_block (a : Addr) (n : Nat) : (a.add n).block = a.block := by unfold Addr.add; split <;> rfl
/-- A store into a number's block leaves words alone. -/
theorem Wd.bz {w w' : World} {z : Nat} {a : Bool} {s v : Value} {n : Int} (h : Wd w v n) (hz : IntB w z a s) (hs : ∀ x, s ≠ .int .u32 x) (hb : Bz z w w') : Wd w' v n := by
  obtain ⟨A, c, l, rfl, hl, hC, hN, hn⟩ := h
  refine ⟨A, c, l, rfl, hl, ⟨hC.1, hC.2.1, fun h0 => ?_⟩, hN, hn⟩
  obtain ⟨ad, e, hc⟩ := hC.2.2 h0
  have hne : ad.block ≠ z := by
    obtain ⟨cs, _, hK, hcs⟩ := hc 0 _ (List.getElem?_eq_getElem h0)
    have hK : cs = [.int .u32 l[0]] := hK
    subst hK
    have h1 := hcs 0 _ rfl
    intro e
    have h2 : (ad.add (0 * (Kd.int .u32).sz + 0)) = ad := by simp [Addr.add]
    rw [h2] at h1
    unfold World.cell? at h1
    rw [e, hz] at h1
    simp only at h1
    split at h1
    · cases h1
    · rcases Nat.lt_or_ge ad.off 2 with h3 | h3
      · have h4 : ad.off = 0 ∨ ad.off = 1 := by omega
        rcases h4 with h4 | h4
        · rw [h4] at h1; simp at h1
        · rw [h4] at h1; simp at h1; exact hs _ h1
      · rw [Array.getElem?_eq_none (by simpa using h3)] at h1; cases h1
  have hlt : ad.block < w.heap.size := by
    obtain ⟨cs, _, hK, hcs⟩ := hc 0 _ (List.getElem?_eq_getElem h0)
    have hK : cs = [.int .u32 l[0]] := hK
    subst hK
    have := World.block_lt_of_cell? w _ (hcs 0 _ rfl)
    rw [add_block] at this
    exact this
  refine ⟨ad, e, fun j p hp => ?_⟩
  obtain ⟨cs, h1, hK, hcs⟩ := hc j p hp
  refine ⟨cs, h1, hK, fun i u hu => ?_⟩
  have : w'.cell? (ad.add (j * (Kd.int .u32).sz + i)) = w.cell? (ad.add (j * (Kd.int .u32).sz + i)) := World.cell?_of_block (by rw [add_block]; exact hb.block _ hlt hne)
  rw [this]
  exact hcs i u hu
theorem Wd.sl {w : World} {v : Value} {n : Int} (h : Wd w v n) : ∀ x, v ≠ .int .u32 x := by
  obtain ⟨A, c, l, rfl, _⟩ := h
  intro x h; cases h
/-- Another number's block is written. -/
theorem IntAt.keep {w w' : World} {b z : Nat} {u v : Int} (h : IntAt w b v) (hz : IntAt w z u) (hne : b ≠ z) (hb : Bz z w w') : IntAt w' b v := by
  obtain ⟨ng, sl, n, h1, h2, h3, h4⟩ := h
  obtain ⟨ng', sl', n', g1, g2, g3, g4⟩ := hz
  exact ⟨ng, sl, n, (hb.block b h1.lt hne).trans h1, h2.bz g1 g2.sl hb, h3, h4⟩
theorem IntAt.below {w w' : World} {b : Nat} {v : Int} (h : IntAt w b v) (hb : Below w.heap.size w w') : IntAt w' b v := by
  obtain ⟨ng, sl, n, h1, h2, h3, h4⟩ := h
  exact ⟨ng, sl, n, kb_keep hb h1, h2.below hb, h3, h4⟩
theorem IntAt.alloc {w : World} {b : Nat} {v : Int} (h : IntAt w b v) (o : Obj) : IntAt (w.alloc o) b v := h.below ((Below.refl _ _).alloc (Nat.le_refl _) o)
theorem IntAt.drewN {w : World} {b : Nat} {v : Int} (h : IntAt w b v) (n : Nat) : IntAt (w.drewN n) b v := h.below (bl_drewN (Below.refl _ _) n)
theorem IntAt.drew {w : World} {b : Nat} {v : Int} (h : IntAt w b v) : IntAt w.drew b v := h.below (bl_drew (Below.refl _ _))
theorem IntAt.zero (w : World) : IntAt (w.alloc (.cells #[.bool false, .slice none 0 0] 80)) w.heap.size 0 :=
  ⟨false, .slice none 0 0, 0, kb_new (Below.refl _ _), Wd.nil _, fun h => (by cases h), rfl⟩
def GPost (z : Nat) (v : Int) (w : World) (e : Ending) (w' : World) : Prop := e = .returned (.pointer (some ⟨z, 0, none⟩)) ∧ IntAt w' z v ∧ Bz z w w'
theorem set_both {w : World} {z : Nat} {a b : Bool} {s sl : Value} (h : IntB w z a s) : IntB ((w.setCell ⟨z, 1, none⟩ sl).setCell ⟨z, 0, none⟩ (.bool b)) z b sl := by
  unfold IntB at h ⊢
  simp [World.setCell, Array.getElem?_modify, h]
theorem give_c {w : World} {z : Nat} {a : Bool} {s sl : Value} {n : Int} (hz : IntB w z a s) (hs : ∀ x, s ≠ .int .u32 x) (hW : Wd w sl n) (ng : Bool) :
    Calls Tryz.prog 69 #[.pointer (some ⟨z, 0, none⟩), .bool ng, sl] w (GPost z (sg ng n) w) := by
  have key : ∀ b : Bool, (b = true → n ≠ 0) → sg b n = sg ng n → GPost z (sg ng n) w (.returned (.pointer (some ⟨z, 0, none⟩))) ((w.setCell ⟨z, 1, none⟩ sl).setCell ⟨z, 0, none⟩ (.bool b)) := fun b h1 h2 => by
    have hb : Bz z w ((w.setCell ⟨z, 1, none⟩ sl).setCell ⟨z, 0, none⟩ (.bool b)) := ((Bz.of (Below.refl _ _)).set 1 sl).set 0 (.bool b)
    exact ⟨rfl, ⟨b, sl, n, set_both hz, hW.bz hz hs hb, h1, h2.symm⟩, hb⟩
  obtain ⟨A, c, l, rfl, hl, hC, hN, hn⟩ := hW
  have KEY := Lib.hid key
  have h0 := hN.zero
  rw [hn] at h0
  have H0 := Lib.hid h0
  have c0 := hz.c0
  have c1 := hz.c1
  have f0 := hz.fz 0
  have f1 := hz.fz 1
  clear key hC hN h0 hn hs hl
  cases ng
  · go_enter Tryz.func69, Tryz.ntmps69
    go_wp2
    go_ret
    exact KEY.out false (fun h => (by cases h)) rfl
  · by_cases hl0 : 0 < l.length
    · have k0 : decide ((0 : Int) < (l.length : Int)) = true := decide_eq_true (by omega)
      have k1 : decide (0 < l.length) = true := decide_eq_true hl0
      go_enter Tryz.func69, Tryz.ntmps69
      go_wp2
      go_ret
      refine KEY.out true (fun _ h => ?_) rfl
      have := H0.out.1 h
      rw [this] at hl0
      simp at hl0
    · have e : l = [] := List.eq_nil_of_length_eq_zero (by omega)
      have h1 := H0.out.2 e
      have H1 := Lib.hid h1
      subst e
      clear h1 hl0
      go_enter Tryz.func69, Tryz.ntmps69
      go_wp2
      go_ret
      exact KEY.out false (fun h => (by cases h)) (by rw [H1.out]; rfl)
end Go.Proofs.YtaedkekjekbjmaaGreatDoor

/- bignum's Int: what its methods do. -/
namespace Go.Proofs.YtaedkekjekbjmaaGreatDoor
open Go Go.RowKit Nv
set_option maxRecDepth 100000
set_option linter.unusedSimpArgs false

abbrev pt (b : Nat) : Value := .pointer (some ⟨b, 0, none⟩)
theorem GPost.after {z : Nat} {v : Int} {w w1 w' : World} {e : Ending} (hb : Below w.heap.size w w1) (h : GPost z v w1 e w') : GPost z v w e w' := ⟨h.1, h.2.1, (Bz.of hb).trans h.2.2⟩
theorem IntB.below {w w' : World} {b : Nat} {ng : Bool} {sl : Value} (h : IntB w b ng sl) (hb : Below w.heap.size w w') : IntB w' b ng sl := kb_keep hb h
theorem dr_below (w : World) : Below w.heap.size w w.drew := bl_drew (Below.refl _ _)
theorem setU_c {w : World} {z : Nat} {v : Int} (hz : IntAt w z v) (x : Nat) (hx : x < 18446744073709551616) : Calls Tryz.prog 49 #[pt z, .int .u64 x] w (GPost z x w) := by
  obtain ⟨ng, sl, n, h1, h2, h3, h4⟩ := hz
  have H1 := Lib.hid h1
  have H2 := Lib.hid h2
  have ww : ∀ w, Calls Tryz.prog 70 #[.int .u64 x] w (WPost x w) := fun w => words_w x hx w
  clear h1 h2 h3 h4 hx
  go_enter Tryz.func49, Tryz.ntmps49
  go_wp2_with (first
    | (go_at_call 70; refine (ww _).mono ?_; rintro e w1 ⟨v1, rfl, hW, hb⟩; have HW := Lib.hid hW; have HB := Lib.hid hb; clear hW hb)
    | (go_at_call 69; refine (give_c (H1.out.below HB.out) H2.out.sl HW.out false).mono ?_; rintro e w2 ⟨rfl, hI, hz⟩; have HI := Lib.hid hI; have HZ := Lib.hid hz; clear hI hz))
  go_ret
  exact ⟨rfl, HI.out, (Bz.of HB.out).trans HZ.out⟩
set_option maxHeartbeats 1600000 in
theorem lsh_c {w : World} {z x : Nat} {u v : Int} (hz : IntAt w z u) (hx : IntAt w x v) (n : Nat) (hn : n ≤ 10000000) (hs : Sm v.natAbs) : Calls Tryz.prog 50 #[pt z, pt x, .int .u64 n] w (GPost z (v * 2 ^ n) w) := by
  obtain ⟨ng, sl, a, h1, h2, h3, h4⟩ := hz
  obtain ⟨xg, xs, b, g1, g2, g3, g4⟩ := hx
  have e1 : (v.natAbs : Int) = b := by rw [g4]; unfold sg; have := g2.nonneg; split <;> omega
  rw [e1] at hs
  have e2 : sg xg (b * 2 ^ n) = v * 2 ^ n := by rw [g4]; unfold sg; split <;> simp [Int.neg_mul]
  have c0 := g1.c0
  have c1 := g1.c1
  have hlt := g1.lt
  have H1 := Lib.hid h1
  have H2 := Lib.hid h2
  have G2 := Lib.hid g2
  have E2 := Lib.hid e2
  have lw : ∀ w', Below w.heap.size w w' → Calls Tryz.prog 71 #[xs, .int .u64 n] w' (WPost (b * 2 ^ n) w') := fun w' hb => left_w (g2.below hb) hs n hn
  have LW := Lib.hid lw
  have HL := Lib.hid hlt
  clear h1 h2 h3 h4 g1 g2 g3 g4 e1 e2 hs hn lw
  go_enter Tryz.func50, Tryz.ntmps50
  go_wp2
  go_region_with (first
    | (go_at_call 71; refine (LW.out _ ?_).mono ?_; exact dr_below _; rintro e w1 ⟨v1, rfl, hW, hb⟩; have cc0 := hb.cell (p := ⟨x, 0, none⟩) HL.out; have HW := Lib.hid hW; have HB := Lib.hid ((dr_below w).trans hb); clear hW hb)
    | (go_at_call 69; refine (give_c (H1.out.below HB.out) H2.out.sl HW.out xg).mono ?_; rintro e w2 ⟨rfl, hI, hz⟩; have HI := Lib.hid hI; have HZ := Lib.hid hz; clear hI hz))
  all_goals go_wp2
  all_goals go_ret
  all_goals exact ⟨rfl, by rw [← E2.out]; exact HI.out, (Bz.of HB.out).trans HZ.out⟩

/-- What is read of a number. -/
structure Rd (w : World) (b : Nat) (v : Int) (ng : Bool) (sl : Value) (n : Int) : Prop where
  blk : IntB w b ng sl
  wd : Wd w sl n
  val : v = sg ng n
  nz : ng = true → n ≠ 0
theorem IntAt.rd {w : World} {b : Nat} {v : Int} (h : IntAt w b v) : ∃ ng sl n, Rd w b v ng sl n := by
  obtain ⟨ng, sl, n, h1, h2, h3, h4⟩ := h
  exact ⟨ng, sl, n, h1, h2, h4, h3⟩
theorem Rd.abs {w : World} {b : Nat} {v : Int} {ng : Bool} {sl : Value} {n : Int} (h : Rd w b v ng sl n) : (v.natAbs : Int) = n := by
  rw [h.val]; unfold sg; have := h.wd.nonneg; split <;> omega
theorem Rd.sm {w : World} {b : Nat} {v : Int} {ng : Bool} {sl : Value} {n : Int} (h : Rd w b v ng sl n) (hs : Sm v.natAbs) : Sm n := by rw [← h.abs]; exact hs
set_option maxHeartbeats 1600000 in
theorem neg_c {w : World} {z x : Nat} {u v : Int} (hz : IntAt w z u) (hx : IntAt w x v) (hs : Sm v.natAbs) : Calls Tryz.prog 51 #[pt z, pt x] w (GPost z (-v) w) := by
  obtain ⟨zg, zs, a, hz⟩ := hz.rd
  obtain ⟨xg, xs, b, hx⟩ := hx.rd
  have hb := hx.sm hs
  have e2 : sg (!xg) b = -v := by rw [hx.val]; unfold sg; cases xg <;> simp
  have c0 := hx.blk.c0
  have c1 := hx.blk.c1
  have HX := Lib.hid hx
  have HZ0 := Lib.hid hz
  have E2 := Lib.hid e2
  have lw : ∀ w', Below w.heap.size w w' → Calls Tryz.prog 72 #[xs] w' (WPost b w') := fun w' h => twin_w (hx.wd.below h) hb
  have LW := Lib.hid lw
  clear hz hx e2 hs hb lw
  go_enter Tryz.func51, Tryz.ntmps51
  go_wp2
  go_region_with (first
    | (go_at_call 72; refine (LW.out _ ?_).mono ?_; exact dr_below _; rintro e w1 ⟨v1, rfl, hW, hb⟩; have cc0 := hb.cell (p := ⟨x, 0, none⟩) HX.out.blk.lt; have HW := Lib.hid hW; have HB := Lib.hid ((dr_below w).trans hb); clear hW hb)
    | (go_at_call 69; refine (give_c (HZ0.out.blk.below HB.out) HZ0.out.wd.sl HW.out (!xg)).mono ?_; rintro e w2 ⟨rfl, hI, hz⟩; have HI := Lib.hid hI; have HZ := Lib.hid hz; clear hI hz))
  all_goals go_wp2
  all_goals go_ret
  all_goals exact ⟨rfl, by rw [← E2.out]; exact HI.out, (Bz.of HB.out).trans HZ.out⟩
theorem mul_sg (xg yg : Bool) (a b : Int) : sg (xg != yg) (a * b) = sg xg a * sg yg b := by cases xg <;> cases yg <;> simp [sg, Int.neg_mul, Int.mul_neg]
set_option maxHeartbeats 6400000 in
theorem mul_c {w : World} {z x y : Nat} {u v t : Int} (hz : IntAt w z u) (hx : IntAt w x v) (hy : IntAt w y t) (hs : Sm v.natAbs) (ks : Sm t.natAbs) : Calls Tryz.prog 54 #[pt z, pt x, pt y] w (GPost z (v * t) w) := by
  obtain ⟨zg, zs, a, hz⟩ := hz.rd
  obtain ⟨xg, xs, b, hx⟩ := hx.rd
  obtain ⟨yg, ys, c, hy⟩ := hy.rd
  have e2 : sg (xg != yg) (b * c) = v * t := by rw [hx.val, hy.val, mul_sg]
  have c0 := hx.blk.c0
  have c1 := hx.blk.c1
  have d0 := hy.blk.c0
  have d1 := hy.blk.c1
  have HX := Lib.hid hx
  have HY := Lib.hid hy
  have HZ0 := Lib.hid hz
  have E2 := Lib.hid e2
  have lw : ∀ w', Below w.heap.size w w' → Calls Tryz.prog 75 #[xs, ys] w' (WPost (b * c) w') := fun w' h => mul_w (hx.wd.below h) (hy.wd.below h) (hx.sm hs) (hy.sm ks)
  have LW := Lib.hid lw
  clear hz hx hy e2 hs ks lw
  go_enter Tryz.func54, Tryz.ntmps54
  go_wp2
  have hS : w.drew.cell? ⟨x, 0, none⟩ = some (.bool xg) ∧ w.drew.cell? ⟨x, 1, none⟩ = some xs ∧ w.drew.cell? ⟨y, 0, none⟩ = some (.bool yg) ∧ w.drew.cell? ⟨y, 1, none⟩ = some ys := ⟨c0, c1, d0, d1⟩
  refine wp_region_G (g := 19) (S := fun w' => w'.cell? ⟨x, 0, none⟩ = some (.bool xg) ∧ w'.cell? ⟨x, 1, none⟩ = some xs ∧ w'.cell? ⟨y, 0, none⟩ = some (.bool yg) ∧ w'.cell? ⟨y, 1, none⟩ = some ys) (by kernel_rfl) ?_
  (refine wpG_take (i := 0) (v := ?_) rfl rfl (by kernel_rfl) (by kernel_rfl) (by kernel_rfl) (fun _ _ _ h => h) (Or.inl ⟨by rfl, fun w => ?_⟩) (Or.inr hS) ?_; rotate_left; focus (go_simp; first | done | with_reducible rfl | exact rfl)); (try simp only [Act.put, List.setIfInBounds_toArray, List.set_cons_zero, List.set_cons_succ, List.getElem_toArray, List.getElem_cons_zero, List.getElem_cons_succ]); (refine wpG_take (i := 1) (v := ?_) rfl rfl (by kernel_rfl) (by kernel_rfl) (by kernel_rfl) (fun _ _ _ h => h) (Or.inl ⟨by rfl, fun w => ?_⟩) (Or.inr hS) ?_; rotate_left; focus (go_simp; first | done | with_reducible rfl | exact rfl)); (try simp only [Act.put, List.setIfInBounds_toArray, List.set_cons_zero, List.set_cons_succ, List.getElem_toArray, List.getElem_cons_zero, List.getElem_cons_succ]); (refine wpG_take (i := 2) (v := ?_) rfl rfl (by kernel_rfl) (by kernel_rfl) (by kernel_rfl) (fun _ _ _ h => h) (Or.inl ⟨by rfl, fun w => ?_⟩) (Or.inr hS) ?_; rotate_left; focus (go_simp; first | done | with_reducible rfl | exact rfl)); (try simp only [Act.put, List.setIfInBounds_toArray, List.set_cons_zero, List.set_cons_succ, List.getElem_toArray, List.getElem_cons_zero, List.getElem_cons_succ]); (refine wpG_take (i := 3) (v := ?_) rfl rfl (by kernel_rfl) (by kernel_rfl) (by kernel_rfl) (fun _ _ _ h => h) (Or.inl ⟨by rfl, fun w => ?_⟩) (Or.inr hS) ?_; rotate_left; focus (go_simp; first | done | with_reducible rfl | exact rfl)); (try simp only [Act.put, List.setIfInBounds_toArray, List.set_cons_zero, List.set_cons_succ, List.getElem_toArray, List.getElem_cons_zero, List.getElem_cons_succ])
  (refine wpG_ld (i := 4) 9 (v := ?_) rfl rfl (by kernel_rfl) (by kernel_rfl) (by kernel_rfl) (by kernel_rfl) (fun _ _ _ h => h) (Or.inl ⟨by rfl, ?_⟩) hS ?_; rotate_left; focus (intro w hSw; (try dsimp only at hSw); go_simp; first | done | with_reducible rfl | exact rfl)); (try simp only [Act.put, List.setIfInBounds_toArray, List.set_cons_zero, List.set_cons_succ, List.getElem_toArray, List.getElem_cons_zero, List.getElem_cons_succ])
  (refine wpG_take (i := 5) (v := ?_) rfl rfl (by kernel_rfl) (by kernel_rfl) (by kernel_rfl) (fun _ _ _ h => h) (Or.inl ⟨by rfl, fun w => ?_⟩) (Or.inr hS) ?_; rotate_left; focus (go_simp; first | done | with_reducible rfl | exact rfl)); (try simp only [Act.put, List.setIfInBounds_toArray, List.set_cons_zero, List.set_cons_succ, List.getElem_toArray, List.getElem_cons_zero, List.getElem_cons_succ]); (refine wpG_take (i := 6) (v := ?_) rfl rfl (by kernel_rfl) (by kernel_rfl) (by kernel_rfl) (fun _ _ _ h => h) (Or.inl ⟨by rfl, fun w => ?_⟩) (Or.inr hS) ?_; rotate_left; focus (go_simp; first | done | with_reducible rfl | exact rfl)); (try simp only [Act.put, List.setIfInBounds_toArray, List.set_cons_zero, List.set_cons_succ, List.getElem_toArray, List.getElem_cons_zero, List.getElem_cons_succ]); (refine wpG_take (i := 7) (v := ?_) rfl rfl (by kernel_rfl) (by kernel_rfl) (by kernel_rfl) (fun _ _ _ h => h) (Or.inl ⟨by rfl, fun w => ?_⟩) (Or.inr hS) ?_; rotate_left; focus (go_simp; first | done | with_reducible rfl | exact rfl)); (try simp only [Act.put, List.setIfInBounds_toArray, List.set_cons_zero, List.set_cons_succ, List.getElem_toArray, List.getElem_cons_zero, List.getElem_cons_succ])
  (refine wpG_ld (i := 8) 9 (v := ?_) rfl rfl (by kernel_rfl) (by kernel_rfl) (by kernel_rfl) (by kernel_rfl) (fun _ _ _ h => h) (Or.inl ⟨by rfl, ?_⟩) hS ?_; rotate_left; focus (intro w hSw; (try dsimp only at hSw); go_simp; first | done | with_reducible rfl | exact rfl)); (try simp only [Act.put, List.setIfInBounds_toArray, List.set_cons_zero, List.set_cons_succ, List.getElem_toArray, List.getElem_cons_zero, List.getElem_cons_succ])
  (refine wpG_take (i := 9) (v := ?_) rfl rfl (by kernel_rfl) (by kernel_rfl) (by kernel_rfl) (fun _ _ _ h => h) (Or.inl ⟨by rfl, fun w => ?_⟩) (Or.inr hS) ?_; rotate_left; focus (go_simp; first | done | with_reducible rfl | exact rfl)); (try simp only [Act.put, List.setIfInBounds_toArray, List.set_cons_zero, List.set_cons_succ, List.getElem_toArray, List.getElem_cons_zero, List.getElem_cons_succ]); (refine wpG_take (i := 10) (v := ?_) rfl rfl (by kernel_rfl) (by kernel_rfl) (by kernel_rfl) (fun _ _ _ h => h) (Or.inl ⟨by rfl, fun w => ?_⟩) (Or.inr hS) ?_; rotate_left; focus (go_simp; first | done | with_reducible rfl | exact rfl)); (try simp only [Act.put, List.setIfInBounds_toArray, List.set_cons_zero, List.set_cons_succ, List.getElem_toArray, List.getElem_cons_zero, List.getElem_cons_succ]); (refine wpG_take (i := 11) (v := ?_) rfl rfl (by kernel_rfl) (by kernel_rfl) (by kernel_rfl) (fun _ _ _ h => h) (Or.inl ⟨by rfl, fun w => ?_⟩) (Or.inr hS) ?_; rotate_left; focus (go_simp; first | done | with_reducible rfl | exact rfl)); (try simp only [Act.put, List.setIfInBounds_toArray, List.set_cons_zero, List.set_cons_succ, List.getElem_toArray, List.getElem_cons_zero, List.getElem_cons_succ]); (refine wpG_take (i := 12) (v := ?_) rfl rfl (by kernel_rfl) (by kernel_rfl) (by kernel_rfl) (fun _ _ _ h => h) (Or.inl ⟨by rfl, fun w => ?_⟩) (Or.inr hS) ?_; rotate_left; focus (go_simp; first | done | with_reducible rfl | exact rfl)); (try simp only [Act.put, List.setIfInBounds_toArray, List.set_cons_zero, List.set_cons_succ, List.getElem_toArray, List.getElem_cons_zero, List.getElem_cons_succ])
  (refine wpG_ld (i := 13) 18 (v := ?_) rfl rfl (by kernel_rfl) (by kernel_rfl) (by kernel_rfl) (by kernel_rfl) (fun _ _ _ h => h) (Or.inl ⟨by rfl, ?_⟩) hS ?_; rotate_left; focus (intro w hSw; (try dsimp only at hSw); go_simp; first | done | with_reducible rfl | exact rfl)); (try simp only [Act.put, List.setIfInBounds_toArray, List.set_cons_zero, List.set_cons_succ, List.getElem_toArray, List.getElem_cons_zero, List.getElem_cons_succ])
  (refine wpG_take (i := 14) (v := ?_) rfl rfl (by kernel_rfl) (by kernel_rfl) (by kernel_rfl) (fun _ _ _ h => h) (Or.inl ⟨by rfl, fun w => ?_⟩) (Or.inr hS) ?_; rotate_left; focus (go_simp; first | done | with_reducible rfl | exact rfl)); (try simp only [Act.put, List.setIfInBounds_toArray, List.set_cons_zero, List.set_cons_succ, List.getElem_toArray, List.getElem_cons_zero, List.getElem_cons_succ]); (refine wpG_take (i := 15) (v := ?_) rfl rfl (by kernel_rfl) (by kernel_rfl) (by kernel_rfl) (fun _ _ _ h => h) (Or.inl ⟨by rfl, fun w => ?_⟩) (Or.inr hS) ?_; rotate_left; focus (go_simp; first | done | with_reducible rfl | exact rfl)); (try simp only [Act.put, List.setIfInBounds_toArray, List.set_cons_zero, List.set_cons_succ, List.getElem_toArray, List.getElem_cons_zero, List.getElem_cons_succ]); (refine wpG_take (i := 16) (v := ?_) rfl rfl (by kernel_rfl) (by kernel_rfl) (by kernel_rfl) (fun _ _ _ h => h) (Or.inl ⟨by rfl, fun w => ?_⟩) (Or.inr hS) ?_; rotate_left; focus (go_simp; first | done | with_reducible rfl | exact rfl)); (try simp only [Act.put, List.setIfInBounds_toArray, List.set_cons_zero, List.set_cons_succ, List.getElem_toArray, List.getElem_cons_zero, List.getElem_cons_succ])
  (refine wpG_ld (i := 17) 18 (v := ?_) rfl rfl (by kernel_rfl) (by kernel_rfl) (by kernel_rfl) (by kernel_rfl) (fun _ _ _ h => h) (Or.inl ⟨by rfl, ?_⟩) hS ?_; rotate_left; focus (intro w hSw; (try dsimp only at hSw); go_simp; first | done | with_reducible rfl | exact rfl)); (try simp only [Act.put, List.setIfInBounds_toArray, List.set_cons_zero, List.set_cons_succ, List.getElem_toArray, List.getElem_cons_zero, List.getElem_cons_succ])
  refine wpG_one (i := 18) (by kernel_rfl) rfl (fun K hK => ?_); have HK := Lib.hid hK; clear hK
  go_simp
  refine (LW.out _ (dr_below _)).mono ?_
  rintro e w1 ⟨v1, rfl, hW, hb⟩
  have HW := Lib.hid hW
  have HB := Lib.hid ((dr_below w).trans hb)
  refine HK.out _ _ (Or.inr ⟨(hb.cell (p := ⟨x, 0, none⟩) HX.out.blk.lt).trans hS.1, (hb.cell (p := ⟨x, 1, none⟩) HX.out.blk.lt).trans hS.2.1, (hb.cell (p := ⟨y, 0, none⟩) HY.out.blk.lt).trans hS.2.2.1, (hb.cell (p := ⟨y, 1, none⟩) HY.out.blk.lt).trans hS.2.2.2⟩) ?_
  clear hW hb HK K
  (try simp only [Act.put, List.setIfInBounds_toArray, List.set_cons_zero, List.set_cons_succ, List.getElem_toArray, List.getElem_cons_zero, List.getElem_cons_succ])
  refine wpG_one (i := 19) (by kernel_rfl) rfl (fun K hK => ?_); have HK := Lib.hid hK; clear hK
  go_simp
  refine (give_c (HZ0.out.blk.below HB.out) HZ0.out.wd.sl HW.out (xg != yg)).mono ?_
  rintro e w2 ⟨rfl, hI, hz⟩
  have HI := Lib.hid hI
  have HZ := Lib.hid hz
  refine HK.out _ _ (Or.inl (by kernel_rfl)) ?_
  clear hI hz HK K
  (try simp only [Act.put, List.setIfInBounds_toArray, List.set_cons_zero, List.set_cons_succ, List.getElem_toArray, List.getElem_cons_zero, List.getElem_cons_succ])
  refine wpG_one (i := 20) (by kernel_rfl) rfl (fun K hK => ?_); have HK := Lib.hid hK; clear hK
  go_simp
  refine HK.out _ _ (Or.inl (by kernel_rfl)) ?_
  clear HK K
  (try simp only [Act.put, List.setIfInBounds_toArray, List.set_cons_zero, List.set_cons_succ, List.getElem_toArray, List.getElem_cons_zero, List.getElem_cons_succ])
  refine wpG_done (by kernel_rfl) ?_ _
  go_wp2
  go_ret
  exact ⟨rfl, by rw [← E2.out]; exact HI.out, (Bz.of HB.out).trans HZ.out⟩
end Go.Proofs.YtaedkekjekbjmaaGreatDoor

/- A region that draws its order, more: what is left may come in any order; an assertion about what has come up so far, told operation by operation. -/
namespace Go.Proofs.YtaedkekjekbjmaaGreatDoor
open Go
section
variable {P : Program} {ops : Array Oper} {Q : Exit → Act → World → Prop} {md : Region.Mode} {S : World → Prop} {g : Nat}
/-- Number i has come up. -/
def On (l : Array Bool) (i : Nat) : Prop := l.getD i true = true
theorem On.set {l : Array Bool} {i j : Nat} (h : On l j) : On (l.setIfInBounds i true) j := by
  unfold On at *
  by_cases e : i = j
  · subst e
    rw [Array.getD_eq_getD_getElem?, Array.getElem?_setIfInBounds]
    simp only [if_true]
    split <;> rfl
  · rw [getD_set_ne true e]; exact h
theorem On.old {l : Array Bool} {i j : Nat} (h : On (l.setIfInBounds i true) j) (e : i ≠ j) : On l j := by
  unfold On at *
  rw [getD_set_ne true e] at h; exact h
/-- Each waits for operations ahead of it alone. -/
def orderly (md : Region.Mode) (ops : Array Oper) : Bool := (List.range ops.size).all fun i => match ops[i]? with
  | some o => o.after.all fun e => !(Region.binds md e) || decide (e.on < i)
  | none => true
theorem On.all {l : Array Bool} (ho : orderly md ops = true) (hs : l.size = ops.size) (hr : Region.ready md ops l = []) : ∀ i, On l i := by
  intro i
  induction i using Nat.strongRecOn with
  | ind i ih =>
    unfold On
    cases hi : l.getD i true with
    | true => rfl
    | false =>
      exfalso
      have hlt : i < l.size := by
        rcases Nat.lt_or_ge i l.size with h | h
        · exact h
        · simp [Array.getElem?_eq_none h] at hi
      have hm : i ∈ Region.ready md ops l := by
        refine mem_ready.2 ⟨hi, ops[i]'(by omega), by simp, fun e he hb => ?_⟩
        have h1 := List.all_eq_true.1 ho i (List.mem_range.2 (by omega))
        rw [show ops[i]? = some (ops[i]'(by omega)) by simp] at h1
        have h2 : e.on < i := by
          simp only [Array.all_eq_true_iff_forall_mem, Bool.or_eq_true, Bool.not_eq_true', decide_eq_true_eq] at h1
          rcases h1 e he with h3 | h3
          · rw [hb] at h3; cases h3
          · exact h3
        have h3 := ih e.on h2
        unfold On at h3
        have h4 : e.on < l.size := by omega
        simpa [h4] using h3
      rw [hr] at hm
      cases hm
section
variable {ξ : Type} {A : ξ → Act} {J : Array Bool → ξ → World → Prop}
def StepAt (P : Program) (md : Region.Mode) (ops : Array Oper) (Q : Exit → Act → World → Prop) (A : ξ → Act) (J : Array Bool → ξ → World → Prop) (i : Nat) : Prop :=
  ∀ (l : Array Bool) (x : ξ) (w : World) (K : Act → World → Prop), l.getD i true = false → (∀ j, Waits md ops i j = true → On l j) → J l x w → (∀ x' w', J (l.setIfInBounds i true) x' w' → K (A x') w') →
    ∃ o, ops[i]? = some o ∧ if Region.wanted o (yielded ops (A x).tmps) = true then Oper.wp P o (A x) w K Q else K ((A x).put o.dst undef) w
def Steps (P : Program) (md : Region.Mode) (ops : Array Oper) (Q : Exit → Act → World → Prop) (A : ξ → Act) (J : Array Bool → ξ → World → Prop) : List Nat → Prop
  | [] => True
  | i :: r => StepAt P md ops Q A J i ∧ Steps P md ops Q A J r
theorem Steps.at {i : Nat} : ∀ (I : List Nat), Steps P md ops Q A J I → i ∈ I → StepAt P md ops Q A J i
  | [], _, h => by cases h
  | _ :: r, hs, h => by
    rcases List.mem_cons.1 h with rfl | h
    · exact hs.1
    · exact Steps.at r hs.2 h
theorem count_set {l : List Bool} {i : Nat} (h : l[i]? = some false) : (l.set i true).count false + 1 = l.count false := by
  induction l generalizing i with
  | nil => simp at h
  | cons b r ih =>
    cases i with
    | zero => simp at h; subst h; simp
    | succ i =>
      simp at h
      have := ih h
      simp only [List.set_cons_succ, List.count_cons]
      omega
theorem wpG_anyway (I : List Nat) (ho : orderly md ops = true) (hg : ∀ l x w, J l x w → On l g ∨ S w) (steps : Steps P md ops Q A J I) (fin : ∀ l x w, (∀ i, On l i) → J l x w → Q .normal (A x) w) :
    ∀ (fuel : Nat) (l : Array Bool) (x : ξ) (w : World), (∀ i, i ∉ I → On l i) → l.toList.count false ≤ fuel → l.size = ops.size → J l x w → wpG P md ops Q S g fuel l (A x) w := by
  intro fuel
  induction fuel with
  | zero =>
    intro l x w _ hc hs hJ
    have hall : ∀ i, On l i := fun i => by
      unfold On
      cases hi : l.getD i true with
      | true => rfl
      | false =>
        exfalso
        rcases Nat.lt_or_ge i l.size with h | h
        · simp [h] at hi
          have : false ∈ l.toList := by rw [← hi]; simp
          have := List.count_pos_iff.2 this
          omega
        · simp [Array.getElem?_eq_none h] at hi
    refine ⟨?_, fin l x w hall hJ⟩
    rw [List.eq_nil_iff_forall_not_mem]
    intro i hi
    have h1 := (mem_ready.1 hi).1
    have h2 := hall i
    unfold On at h2
    rw [h1] at h2
    cases h2
  | succ fuel ih =>
    intro l x w hI hc hs hJ
    refine ⟨fun hr => fin l x w (On.all ho hs hr) hJ, fun i hi => ?_⟩
    obtain ⟨hf, oi, hoi, hall⟩ := mem_ready.1 hi
    have hlt : i < l.size := by
      rcases Nat.lt_or_ge i l.size with h | h
      · exact h
      · simp [Array.getElem?_eq_none h] at hf
    have hiI : i ∈ I := by
      by_cases h : i ∈ I
      · exact h
      · have := hI i h
        unfold On at this
        rw [hf] at this
        cases this
    have hW : ∀ j, Waits md ops i j = true → On l j := fun j hj => by
      unfold Waits at hj
      rw [hoi] at hj
      obtain ⟨e, he, hb⟩ := Array.any_eq_true'.1 hj
      simp only [Bool.and_eq_true, beq_iff_eq] at hb
      have h1 := hall e he hb.1
      rw [hb.2] at h1
      unfold On
      rcases Nat.lt_or_ge j l.size with h' | h'
      · simp [h'] at h1 ⊢; exact h1
      · simp [Array.getElem?_eq_none h'] at h1
    have hcount : (l.setIfInBounds i true).toList.count false ≤ fuel := by
      have h1 : l.toList[i]? = some false := by
        simp [hlt] at hf ⊢; exact hf
      have := count_set h1
      rw [Array.toList_setIfInBounds]
      omega
    have key := steps.at I hiI
    obtain ⟨o, hoo⟩ : ∃ o, ops[i]? = some o := ⟨oi, hoi⟩
    refine wpOp_step hoo (fun K' hK => ?_)
    obtain ⟨o', ho', hw⟩ := key l x w K' hf hW hJ (fun x' w' hJ' => hK _ _ ⟨hg _ _ _ hJ', ih _ _ _ (fun j hj => (hI j hj).set) hcount (by simpa using hs) hJ'⟩)
    rw [hoo] at ho'
    cases ho'
    exact hw
/-- The move of a walk: from here on in any order. -/
theorem wpG_mono (I : List Nat) (A : ξ → Act) (J : Array Bool → ξ → World → Prop) (x0 : ξ) {fuel : Nat} {listed : Array Bool} {a : Act} {w : World}
    (hb : (orderly md ops && (listed.toList.count false ≤ fuel) && (listed.size == ops.size) && (List.range listed.size).all (fun i => I.contains i || listed.getD i true)) = true)
    (ha : a = A x0) (h0 : J listed x0 w) (hg : ∀ l x w, J l x w → On l g ∨ S w) (steps : Steps P md ops Q A J I) (fin : ∀ l x w, (∀ i, On l i) → J l x w → Q .normal (A x) w) :
    wpG P md ops Q S g fuel listed a w := by
  simp only [Bool.and_eq_true, decide_eq_true_eq, beq_iff_eq, List.all_eq_true, List.mem_range, Bool.or_eq_true] at hb
  subst ha
  refine wpG_anyway I hb.1.1.1 hg steps fin fuel listed x0 w (fun i hi => ?_) hb.1.1.2 hb.1.2 h0
  rcases Nat.lt_or_ge i listed.size with h | h
  · rcases hb.2 i h with h1 | h1
    · exact absurd (List.contains_iff_mem.1 h1) hi
    · exact h1
  · unfold On
    simp [Array.getElem?_eq_none h]
/-- Values put into slots. -/
def puts : List Nat → List Value → Act → Act
  | s :: sl, v :: vs, a => puts sl vs (a.put (some s) v)
  | _, _, a => a
theorem put_same (a : Act) (s : Nat) : a.put (some s) (a.tmps.getD s undef) = a := by
  suffices e : a.tmps.setIfInBounds s (a.tmps.getD s undef) = a.tmps by
    show ({ a with tmps := a.tmps.setIfInBounds s (a.tmps.getD s undef) } : Act) = a
    rw [e]
  apply Array.ext (by simp)
  intro i h1 h2
  rw [Array.getElem_setIfInBounds (by simpa using h1)]
  split
  · rename_i e; subst e; simp [h2]
  · rfl
theorem puts_same (a : Act) : ∀ sl : List Nat, puts sl (sl.map fun s => a.tmps.getD s undef) a = a
  | [] => rfl
  | s :: sl => by
    show puts sl _ (a.put (some s) (a.tmps.getD s undef)) = a
    rw [put_same]
    exact puts_same a sl
/-- The move of a walk: from here on in any order; the slots of what is to come stand in sl. -/
theorem wpG_mix (I sl : List Nat) (J : Array Bool → List Value → World → Prop) {fuel : Nat} {listed : Array Bool} {a : Act} {w : World}
    (hb : (orderly md ops && (listed.toList.count false ≤ fuel) && (listed.size == ops.size) && (List.range listed.size).all (fun i => I.contains i || listed.getD i true)) = true)
    (h0 : J listed (sl.map fun s => a.tmps.getD s undef) w) (hg : ∀ l x w, J l x w → On l g ∨ S w) (steps : Steps P md ops Q (fun x => puts sl x a) J I) (fin : ∀ l x w, (∀ i, On l i) → J l x w → Q .normal (puts sl x a) w) :
    wpG P md ops Q S g fuel listed a w :=
  wpG_mono I (fun x => puts sl x a) J _ hb (puts_same a sl).symm h0 hg steps fin
end
end
end Go.Proofs.YtaedkekjekbjmaaGreatDoor

/- girderref02's numbers in blocks of their own. -/
namespace Go.Proofs.YtaedkekjekbjmaaGreatDoor
open Go Go.RowKit Nv
open Go.Proofs.YtaedkekjekbjmaaGreatDoorW.PrintWords (Kd)
set_option maxRecDepth 100000
set_option linter.unusedSimpArgs false

theorem kb_cB {w w' : World} {a : Addr} {v : Value} (hb : Below w.heap.size w w') (h : w.cell? a = some v) : w'.cell? a = some v := (hb.cell (World.block_lt_of_cell? w _ h)).trans h
theorem NS.alloc_ {w : World} {v : Value} {k : Nat} {E z : Int} (h : NS w v k E z) (o : Obj) : NS (w.alloc o) v k E z := h.below (bl_alloc (Below.refl _ _) o)
theorem NS.agg {w : World} {v : Value} {k : Nat} {E z : Int} (h : NS w v k E z) : ∃ g A m c x, v = .agg #[.bool g, .slice A m c, .int .i64 x] := by
  obtain ⟨g, m, x, ⟨u, rfl, hu⟩, _⟩ := h
  obtain ⟨A, n, c, rfl⟩ := hu.slice
  exact ⟨g, A, n, c, x, rfl⟩
/-- A block that holds a Num's three cells. -/
def AB (w : World) (b : Nat) : Prop := ∃ g A m c x, w.heap[b]? = some (.cells #[.bool g, .slice A m c, .int .i64 x] 53 (0, 0))
/-- A block that holds a Num, and which. -/
def NB (w : World) (b k : Nat) (E z : Int) : Prop := ∃ g A m c x, w.heap[b]? = some (.cells #[.bool g, .slice A m c, .int .i64 x] 53 (0, 0)) ∧ NS w (.agg #[.bool g, .slice A m c, .int .i64 x]) k E z
theorem NB.ab {w : World} {b k : Nat} {E z : Int} (h : NB w b k E z) : AB w b := by
  obtain ⟨g, A, m, c, x, h1, _⟩ := h
  exact ⟨g, A, m, c, x, h1⟩
theorem AB.below {w w' : World} {b : Nat} (h : AB w b) (hb : Below w.heap.size w w') : AB w' b := by
  obtain ⟨g, A, m, c, x, h1⟩ := h
  exact ⟨g, A, m, c, x, kb_keep hb h1⟩
theorem AB.lt {w : World} {b : Nat} (h : AB w b) : b < w.heap.size := by
  obtain ⟨g, A, m, c, x, h1⟩ := h
  exact kb_lt h1
theorem NB.below {w w' : World} {b k : Nat} {E z : Int} (h : NB w b k E z) (hb : Below w.heap.size w w') : NB w' b k E z := by
  obtain ⟨g, A, m, c, x, h1, h2⟩ := h
  exact ⟨g, A, m, c, x, kb_keep hb h1, h2.below hb⟩
abbrev finN (w : World) (b : Nat) (g : Bool) (v : Value) (x : Int) : World := ((w.setCell ⟨b, 0, none⟩ (.bool g)).setCell ⟨b, 1, none⟩ v).setCell ⟨b, 2, none⟩ (.int .i64 x)
theorem NS.fin {w : World} {b k : Nat} {E z : Int} {v : Value} (h : NS w v k E z) (ha : AB w b) (g : Bool) (A : Option Addr) (m c : Nat) (x : Int) : NS (finN w b g (.slice A m c) x) v k E z := by
  obtain ⟨g1, m1, x1, ⟨u, rfl, hu⟩, h2⟩ := h
  obtain ⟨g0, A0, m0, c0, x0, h1⟩ := ha
  have h3 := hp_set h1 0 (.bool g)
  have h4 := hp_set h3 1 (.slice A m c)
  exact ⟨g1, m1, x1, ⟨u, rfl, Ld.setc (Ld.setc (Ld.setc hu (kb_cell h1 (i := 0) rfl) (by simp) _) (kb_cell h3 (i := 1) rfl) (by simp) _) (kb_cell h4 (i := 2) rfl) (by simp) _⟩, h2⟩
theorem fin_own {w : World} {b : Nat} (ha : AB w b) (g : Bool) (A : Option Addr) (m c : Nat) (x : Int) : (finN w b g (.slice A m c) x).heap[b]? = some (.cells #[.bool g, .slice A m c, .int .i64 x] 53 (0, 0)) := by
  obtain ⟨g0, A0, m0, c0, x0, h1⟩ := ha
  exact hp_set (hp_set (hp_set h1 0 (.bool g)) 1 (.slice A m c)) 2 (.int .i64 x)
theorem fin_far {w : World} {b b' : Nat} (h : b' ≠ b) (g : Bool) (v : Value) (x : Int) : (finN w b g v x).heap[b']? = w.heap[b']? := by
  rw [hp_other h, hp_other h, hp_other h]
theorem AB.fin {w : World} {b b' : Nat} (h : AB w b') (ha : AB w b) (g : Bool) (A : Option Addr) (m c : Nat) (x : Int) : AB (finN w b g (.slice A m c) x) b' := by
  by_cases e : b' = b
  · subst e; exact ⟨_, _, _, _, _, fin_own ha g A m c x⟩
  · obtain ⟨g0, A0, m0, c0, x0, h1⟩ := h
    exact ⟨g0, A0, m0, c0, x0, by rw [fin_far e]; exact h1⟩
theorem NB.fin {w : World} {b b' k : Nat} {E z : Int} (h : NB w b' k E z) (ha : AB w b) (e : b' ≠ b) (g : Bool) (A : Option Addr) (m c : Nat) (x : Int) : NB (finN w b g (.slice A m c) x) b' k E z := by
  obtain ⟨g0, A0, m0, c0, x0, h1, h2⟩ := h
  exact ⟨g0, A0, m0, c0, x0, by rw [fin_far e]; exact h1, h2.fin ha g A m c x⟩
theorem NS.put {w : World} {b k : Nat} {E z : Int} {g : Bool} {A : Option Addr} {m c : Nat} {x : Int} (h : NS w (.agg #[.bool g, .slice A m c, .int .i64 x]) k E z) (ha : AB w b) : NB (finN w b g (.slice A m c) x) b k E z :=
  ⟨g, A, m, c, x, fin_own ha g A m c x, h.fin ha g A m c x⟩
theorem bl_fin {B : Nat} {w W : World} (h : Below B w W) {b : Nat} (hb : B ≤ b) (g : Bool) (v : Value) (x : Int) : Below B w (finN W b g v x) := bl_set (bl_set (bl_set h _ hb) _ hb) _ hb
theorem ab_new (w : World) : AB (w.alloc nilN) w.heap.size := ⟨_, _, _, _, _, kb_new (Below.refl _ _)⟩
/-- What a store into such a block asks. -/
theorem AB.cells {w : World} {b : Nat} (h : AB w b) : ∃ g A m c x, w.cell? ⟨b, 0, none⟩ = some (.bool g) ∧ w.cell? ⟨b, 1, none⟩ = some (.slice A m c) ∧ w.cell? ⟨b, 2, none⟩ = some (.int .i64 x) ∧ w.frozen? ⟨b, 0, none⟩ = false ∧ w.frozen? ⟨b, 1, none⟩ = false ∧ w.frozen? ⟨b, 2, none⟩ = false := by
  obtain ⟨g, A, m, c, x, h1⟩ := h
  exact ⟨g, A, m, c, x, kb_cell h1 (i := 0) rfl, kb_cell h1 (i := 1) rfl, kb_cell h1 (i := 2) rfl, kb_frozen h1 0, kb_frozen h1 1, kb_frozen h1 2⟩
theorem off {l : Array Bool} {i : Nat} {C : Prop} (h : On l i) (hf : l.getD i true = false) : C := absurd (h.symm.trans hf) (by decide)
theorem ab_grow {w w' : World} {v : Value} {B : Nat} (h : ∃ b, v = pt b ∧ B ≤ b ∧ AB w b) (hb : Below w.heap.size w w') : ∃ b, v = pt b ∧ B ≤ b ∧ AB w' b := by
  obtain ⟨b, h1, h2, h3⟩ := h
  exact ⟨b, h1, h2, h3.below hb⟩
theorem nb_grow {w w' : World} {v : Value} {B k : Nat} {E z : Int} (h : ∃ b, v = pt b ∧ B ≤ b ∧ NB w b k E z) (hb : Below w.heap.size w w') : ∃ b, v = pt b ∧ B ≤ b ∧ NB w' b k E z := by
  obtain ⟨b, h1, h2, h3⟩ := h
  exact ⟨b, h1, h2, h3.below hb⟩
end Go.Proofs.YtaedkekjekbjmaaGreatDoor

/- bignum's Int: sums, signs, what is made of an int64. -/
namespace Go.Proofs.YtaedkekjekbjmaaGreatDoor
open Go Go.RowKit Nv
set_option maxRecDepth 100000
set_option linter.unusedSimpArgs false

def SPost (s : Int) (w : World) (e : Ending) (w' : World) : Prop := ∃ ng v n, e = .returned (.tuple #[.bool ng, v]) ∧ Wd w' v n ∧ sg ng n = s ∧ Below w.heap.size w w'
set_option maxHeartbeats 1600000 in
theorem sum_c {w : World} {u v : Value} {a b : Int} (xg yg : Bool) (h : Wd w u a) (k : Wd w v b) (hs : Sm a) (ks : Sm b) : Calls Tryz.prog 74 #[.bool xg, u, .bool yg, v] w (SPost (sg xg a + sg yg b) w) := by
  have ha := h.nonneg
  have hb := k.nonneg
  have ad : ∀ w', Below w.heap.size w w' → Calls Tryz.prog 88 #[u, v] w' (WPost (a + b) w') := fun w' hb => add_w (h.below hb) (k.below hb) hs ks
  have cm : ∀ w', Below w.heap.size w w' → Calls Tryz.prog 89 #[u, v] w' fun e w'' => e = .returned (.int .i64 (if a < b then -1 else if b < a then 1 else 0)) ∧ Below w'.heap.size w' w'' := fun w' hb => cmp_w (h.below hb) (k.below hb) hs
  have s1 : b ≤ a → ∀ w', Below w.heap.size w w' → Calls Tryz.prog 90 #[u, v] w' (WPost (a - b) w') := fun hle w' hb => sub_w (h.below hb) (k.below hb) hs hle
  have s2 : a ≤ b → ∀ w', Below w.heap.size w w' → Calls Tryz.prog 90 #[v, u] w' (WPost (b - a) w') := fun hle w' hb => sub_w (k.below hb) (h.below hb) ks hle
  have AD := Lib.hid ad
  have CM := Lib.hid cm
  have S1 := Lib.hid s1
  have S2 := Lib.hid s2
  have HA := Lib.hid ha
  have HB0 := Lib.hid hb
  clear h k hs ks ad cm s1 s2 ha hb
  by_cases hx : xg = yg
  · subst hx
    go_enter Tryz.func74, Tryz.ntmps74
    go_wp2_with (first
      | (go_at_call 88; refine (AD.out _ (Below.refl _ _)).mono ?_; rintro e w1 ⟨v1, rfl, hW, hb⟩; have HW := Lib.hid hW; have HB := Lib.hid hb; clear hW hb))
    go_ret2
    exact ⟨xg, v1, a + b, rfl, HW.out, by unfold sg; split <;> omega, HB.out⟩
  · have e1 : (xg == yg) = false := by simpa using hx
    have HX := Lib.hid hx
    clear hx
    by_cases hlt : a < b
    · have HL := Lib.hid hlt
      have e2 : (if a < b then (-1 : Int) else if b < a then 1 else 0) = -1 := if_pos hlt
      rw [e2] at CM
      clear hlt e2
      go_enter Tryz.func74, Tryz.ntmps74
      go_wp2_with (first
        | (go_at_call 89; refine (CM.out _ (Below.refl _ _)).mono ?_; rintro e w1 ⟨rfl, hb⟩; have HB := Lib.hid hb; clear hb)
        | (go_at_call 90; refine (S2.out (Int.le_of_lt HL.out) _ HB.out).mono ?_; rintro e w2 ⟨v1, rfl, hW, hb⟩; have HW := Lib.hid hW; have HB2 := Lib.hid hb; clear hW hb))
      go_ret2
      exact ⟨yg, v1, b - a, rfl, HW.out, by have := HX.out; unfold sg; cases xg <;> cases yg <;> simp at this ⊢ <;> omega, bl_then HB.out HB2.out⟩
    · obtain ⟨c, hc, h0⟩ : ∃ c : Int, (if a < b then (-1 : Int) else if b < a then 1 else 0) = c ∧ 0 ≤ c := ⟨_, rfl, by rw [if_neg hlt]; split <;> omega⟩
      rw [hc] at CM
      have HL := Lib.hid hlt
      clear hlt hc
      go_enter Tryz.func74, Tryz.ntmps74
      go_wp2_with (first
        | (go_at_call 89; refine (CM.out _ (Below.refl _ _)).mono ?_; rintro e w1 ⟨rfl, hb⟩; have HB := Lib.hid hb; clear hb)
        | (go_at_call 90; refine (S1.out (by have := HL.out; omega) _ HB.out).mono ?_; rintro e w2 ⟨v1, rfl, hW, hb⟩; have HW := Lib.hid hW; have HB2 := Lib.hid hb; clear hW hb))
      go_ret2
      exact ⟨xg, v1, a - b, rfl, HW.out, by have := HX.out; unfold sg; cases xg <;> cases yg <;> simp at this ⊢ <;> omega, bl_then HB.out HB2.out⟩
set_option maxHeartbeats 1600000 in
theorem sub_c {w : World} {z x y : Nat} {u v t : Int} (hz : IntAt w z u) (hx : IntAt w x v) (hy : IntAt w y t) (hs : Sm v.natAbs) (ks : Sm t.natAbs) : Calls Tryz.prog 53 #[pt z, pt x, pt y] w (GPost z (v - t) w) := by
  obtain ⟨zg, zs, a, hz⟩ := hz.rd
  obtain ⟨xg, xs, b, hx⟩ := hx.rd
  obtain ⟨yg, ys, c, hy⟩ := hy.rd
  have e2 : sg xg b + sg (!yg) c = v - t := by rw [hx.val, hy.val]; unfold sg; cases xg <;> cases yg <;> simp <;> omega
  have c0 := hx.blk.c0
  have c1 := hx.blk.c1
  have d0 := hy.blk.c0
  have d1 := hy.blk.c1
  have HZ0 := Lib.hid hz
  have E2 := Lib.hid e2
  have lw : ∀ w', Below w.heap.size w w' → Calls Tryz.prog 74 #[.bool xg, xs, .bool (!yg), ys] w' (SPost (sg xg b + sg (!yg) c) w') := fun w' h => sum_c xg (!yg) (hx.wd.below h) (hy.wd.below h) (hx.sm hs) (hy.sm ks)
  have LW := Lib.hid lw
  clear hz hx hy e2 hs ks lw
  go_enter Tryz.func53, Tryz.ntmps53
  go_wp2
  have hS : w.drew.cell? ⟨x, 0, none⟩ = some (.bool xg) ∧ w.drew.cell? ⟨x, 1, none⟩ = some xs ∧ w.drew.cell? ⟨y, 0, none⟩ = some (.bool yg) ∧ w.drew.cell? ⟨y, 1, none⟩ = some ys := ⟨c0, c1, d0, d1⟩
  refine wp_region_G (g := 18) (S := fun w' => w'.cell? ⟨x, 0, none⟩ = some (.bool xg) ∧ w'.cell? ⟨x, 1, none⟩ = some xs ∧ w'.cell? ⟨y, 0, none⟩ = some (.bool yg) ∧ w'.cell? ⟨y, 1, none⟩ = some ys) (by kernel_rfl) ?_
  (refine wpG_take (i := 0) (v := ?_) rfl rfl (by kernel_rfl) (by kernel_rfl) (by kernel_rfl) (fun _ _ _ h => h) (Or.inl ⟨by rfl, fun w => ?_⟩) (Or.inr hS) ?_; rotate_left; focus (go_simp; first | done | with_reducible rfl | exact rfl)); (try simp only [Act.put, List.setIfInBounds_toArray, List.set_cons_zero, List.set_cons_succ, List.getElem_toArray, List.getElem_cons_zero, List.getElem_cons_succ]); (refine wpG_take (i := 1) (v := ?_) rfl rfl (by kernel_rfl) (by kernel_rfl) (by kernel_rfl) (fun _ _ _ h => h) (Or.inl ⟨by rfl, fun w => ?_⟩) (Or.inr hS) ?_; rotate_left; focus (go_simp; first | done | with_reducible rfl | exact rfl)); (try simp only [Act.put, List.setIfInBounds_toArray, List.set_cons_zero, List.set_cons_succ, List.getElem_toArray, List.getElem_cons_zero, List.getElem_cons_succ]); (refine wpG_take (i := 2) (v := ?_) rfl rfl (by kernel_rfl) (by kernel_rfl) (by kernel_rfl) (fun _ _ _ h => h) (Or.inl ⟨by rfl, fun w => ?_⟩) (Or.inr hS) ?_; rotate_left; focus (go_simp; first | done | with_reducible rfl | exact rfl)); (try simp only [Act.put, List.setIfInBounds_toArray, List.set_cons_zero, List.set_cons_succ, List.getElem_toArray, List.getElem_cons_zero, List.getElem_cons_succ]); (refine wpG_take (i := 3) (v := ?_) rfl rfl (by kernel_rfl) (by kernel_rfl) (by kernel_rfl) (fun _ _ _ h => h) (Or.inl ⟨by rfl, fun w => ?_⟩) (Or.inr hS) ?_; rotate_left; focus (go_simp; first | done | with_reducible rfl | exact rfl)); (try simp only [Act.put, List.setIfInBounds_toArray, List.set_cons_zero, List.set_cons_succ, List.getElem_toArray, List.getElem_cons_zero, List.getElem_cons_succ])
  (refine wpG_ld (i := 4) 18 (v := ?_) rfl rfl (by kernel_rfl) (by kernel_rfl) (by kernel_rfl) (by kernel_rfl) (fun _ _ _ h => h) (Or.inl ⟨by rfl, ?_⟩) hS ?_; rotate_left; focus (intro w hSw; (try dsimp only at hSw); go_simp; first | done | with_reducible rfl | exact rfl)); (try simp only [Act.put, List.setIfInBounds_toArray, List.set_cons_zero, List.set_cons_succ, List.getElem_toArray, List.getElem_cons_zero, List.getElem_cons_succ])
  (refine wpG_take (i := 5) (v := ?_) rfl rfl (by kernel_rfl) (by kernel_rfl) (by kernel_rfl) (fun _ _ _ h => h) (Or.inl ⟨by rfl, fun w => ?_⟩) (Or.inr hS) ?_; rotate_left; focus (go_simp; first | done | with_reducible rfl | exact rfl)); (try simp only [Act.put, List.setIfInBounds_toArray, List.set_cons_zero, List.set_cons_succ, List.getElem_toArray, List.getElem_cons_zero, List.getElem_cons_succ]); (refine wpG_take (i := 6) (v := ?_) rfl rfl (by kernel_rfl) (by kernel_rfl) (by kernel_rfl) (fun _ _ _ h => h) (Or.inl ⟨by rfl, fun w => ?_⟩) (Or.inr hS) ?_; rotate_left; focus (go_simp; first | done | with_reducible rfl | exact rfl)); (try simp only [Act.put, List.setIfInBounds_toArray, List.set_cons_zero, List.set_cons_succ, List.getElem_toArray, List.getElem_cons_zero, List.getElem_cons_succ]); (refine wpG_take (i := 7) (v := ?_) rfl rfl (by kernel_rfl) (by kernel_rfl) (by kernel_rfl) (fun _ _ _ h => h) (Or.inl ⟨by rfl, fun w => ?_⟩) (Or.inr hS) ?_; rotate_left; focus (go_simp; first | done | with_reducible rfl | exact rfl)); (try simp only [Act.put, List.setIfInBounds_toArray, List.set_cons_zero, List.set_cons_succ, List.getElem_toArray, List.getElem_cons_zero, List.getElem_cons_succ])
  (refine wpG_ld (i := 8) 18 (v := ?_) rfl rfl (by kernel_rfl) (by kernel_rfl) (by kernel_rfl) (by kernel_rfl) (fun _ _ _ h => h) (Or.inl ⟨by rfl, ?_⟩) hS ?_; rotate_left; focus (intro w hSw; (try dsimp only at hSw); go_simp; first | done | with_reducible rfl | exact rfl)); (try simp only [Act.put, List.setIfInBounds_toArray, List.set_cons_zero, List.set_cons_succ, List.getElem_toArray, List.getElem_cons_zero, List.getElem_cons_succ])
  (refine wpG_take (i := 9) (v := ?_) rfl rfl (by kernel_rfl) (by kernel_rfl) (by kernel_rfl) (fun _ _ _ h => h) (Or.inl ⟨by rfl, fun w => ?_⟩) (Or.inr hS) ?_; rotate_left; focus (go_simp; first | done | with_reducible rfl | exact rfl)); (try simp only [Act.put, List.setIfInBounds_toArray, List.set_cons_zero, List.set_cons_succ, List.getElem_toArray, List.getElem_cons_zero, List.getElem_cons_succ]); (refine wpG_take (i := 10) (v := ?_) rfl rfl (by kernel_rfl) (by kernel_rfl) (by kernel_rfl) (fun _ _ _ h => h) (Or.inl ⟨by rfl, fun w => ?_⟩) (Or.inr hS) ?_; rotate_left; focus (go_simp; first | done | with_reducible rfl | exact rfl)); (try simp only [Act.put, List.setIfInBounds_toArray, List.set_cons_zero, List.set_cons_succ, List.getElem_toArray, List.getElem_cons_zero, List.getElem_cons_succ]); (refine wpG_take (i := 11) (v := ?_) rfl rfl (by kernel_rfl) (by kernel_rfl) (by kernel_rfl) (fun _ _ _ h => h) (Or.inl ⟨by rfl, fun w => ?_⟩) (Or.inr hS) ?_; rotate_left; focus (go_simp; first | done | with_reducible rfl | exact rfl)); (try simp only [Act.put, List.setIfInBounds_toArray, List.set_cons_zero, List.set_cons_succ, List.getElem_toArray, List.getElem_cons_zero, List.getElem_cons_succ])
  (refine wpG_ld (i := 12) 13 (v := ?_) rfl rfl (by kernel_rfl) (by kernel_rfl) (by kernel_rfl) (by kernel_rfl) (fun _ _ _ h => h) (Or.inl ⟨by rfl, ?_⟩) hS ?_; rotate_left; focus (intro w hSw; (try dsimp only at hSw); go_simp; first | done | with_reducible rfl | exact rfl)); (try simp only [Act.put, List.setIfInBounds_toArray, List.set_cons_zero, List.set_cons_succ, List.getElem_toArray, List.getElem_cons_zero, List.getElem_cons_succ])
  (refine wpG_take (i := 13) (v := ?_) rfl rfl (by kernel_rfl) (by kernel_rfl) (by kernel_rfl) (fun _ _ _ h => h) (Or.inl ⟨by rfl, fun w => ?_⟩) (Or.inr hS) ?_; rotate_left; focus (go_simp; first | done | with_reducible rfl | exact rfl)); (try simp only [Act.put, List.setIfInBounds_toArray, List.set_cons_zero, List.set_cons_succ, List.getElem_toArray, List.getElem_cons_zero, List.getElem_cons_succ]); (refine wpG_take (i := 14) (v := ?_) rfl rfl (by kernel_rfl) (by kernel_rfl) (by kernel_rfl) (fun _ _ _ h => h) (Or.inl ⟨by rfl, fun w => ?_⟩) (Or.inr hS) ?_; rotate_left; focus (go_simp; first | done | with_reducible rfl | exact rfl)); (try simp only [Act.put, List.setIfInBounds_toArray, List.set_cons_zero, List.set_cons_succ, List.getElem_toArray, List.getElem_cons_zero, List.getElem_cons_succ]); (refine wpG_take (i := 15) (v := ?_) rfl rfl (by kernel_rfl) (by kernel_rfl) (by kernel_rfl) (fun _ _ _ h => h) (Or.inl ⟨by rfl, fun w => ?_⟩) (Or.inr hS) ?_; rotate_left; focus (go_simp; first | done | with_reducible rfl | exact rfl)); (try simp only [Act.put, List.setIfInBounds_toArray, List.set_cons_zero, List.set_cons_succ, List.getElem_toArray, List.getElem_cons_zero, List.getElem_cons_succ]); (refine wpG_take (i := 16) (v := ?_) rfl rfl (by kernel_rfl) (by kernel_rfl) (by kernel_rfl) (fun _ _ _ h => h) (Or.inl ⟨by rfl, fun w => ?_⟩) (Or.inr hS) ?_; rotate_left; focus (go_simp; first | done | with_reducible rfl | exact rfl)); (try simp only [Act.put, List.setIfInBounds_toArray, List.set_cons_zero, List.set_cons_succ, List.getElem_toArray, List.getElem_cons_zero, List.getElem_cons_succ])
  (refine wpG_ld (i := 17) 18 (v := ?_) rfl rfl (by kernel_rfl) (by kernel_rfl) (by kernel_rfl) (by kernel_rfl) (fun _ _ _ h => h) (Or.inl ⟨by rfl, ?_⟩) hS ?_; rotate_left; focus (intro w hSw; (try dsimp only at hSw); go_simp; first | done | with_reducible rfl | exact rfl)); (try simp only [Act.put, List.setIfInBounds_toArray, List.set_cons_zero, List.set_cons_succ, List.getElem_toArray, List.getElem_cons_zero, List.getElem_cons_succ])
  clear hS
  refine wpG_one (i := 18) (by kernel_rfl) rfl (fun K hK => ?_); have HK := Lib.hid hK; clear hK
  go_simp
  refine (LW.out _ (dr_below _)).mono ?_
  rintro e w1 ⟨ng, v1, n, rfl, hW, hv, hb⟩
  have HW := Lib.hid hW
  have HV := Lib.hid hv
  have HB := Lib.hid ((dr_below w).trans hb)
  refine HK.out _ _ (Or.inl (by kernel_rfl)) ?_
  clear hW hb HK K hv
  (try simp only [Act.put, List.setIfInBounds_toArray, List.set_cons_zero, List.set_cons_succ, List.getElem_toArray, List.getElem_cons_zero, List.getElem_cons_succ])
  (refine wpG_take (i := 19) (v := ?_) rfl rfl (by kernel_rfl) (by kernel_rfl) (by kernel_rfl) (fun _ _ _ h => h) (Or.inl ⟨by rfl, fun w => ?_⟩) (Or.inl (by kernel_rfl)) ?_; rotate_left; focus (go_simp; first | done | with_reducible rfl | exact rfl)); (try simp only [Act.put, List.setIfInBounds_toArray, List.set_cons_zero, List.set_cons_succ, List.getElem_toArray, List.getElem_cons_zero, List.getElem_cons_succ]); (refine wpG_take (i := 20) (v := ?_) rfl rfl (by kernel_rfl) (by kernel_rfl) (by kernel_rfl) (fun _ _ _ h => h) (Or.inl ⟨by rfl, fun w => ?_⟩) (Or.inl (by kernel_rfl)) ?_; rotate_left; focus (go_simp; first | done | with_reducible rfl | exact rfl)); (try simp only [Act.put, List.setIfInBounds_toArray, List.set_cons_zero, List.set_cons_succ, List.getElem_toArray, List.getElem_cons_zero, List.getElem_cons_succ])
  refine wpG_one (i := 21) (by kernel_rfl) rfl (fun K hK => ?_); have HK := Lib.hid hK; clear hK
  go_simp
  refine (give_c (HZ0.out.blk.below HB.out) HZ0.out.wd.sl HW.out ng).mono ?_
  rintro e w2 ⟨rfl, hI, hz⟩
  have HI := Lib.hid hI
  have HZ := Lib.hid hz
  refine HK.out _ _ (Or.inl (by kernel_rfl)) ?_
  clear hI hz HK K
  (try simp only [Act.put, List.setIfInBounds_toArray, List.set_cons_zero, List.set_cons_succ, List.getElem_toArray, List.getElem_cons_zero, List.getElem_cons_succ])
  refine wpG_one (i := 22) (by kernel_rfl) rfl (fun K hK => ?_); have HK := Lib.hid hK; clear hK; go_simp; refine HK.out _ _ (Or.inl (by kernel_rfl)) ?_; clear HK K; (try simp only [Act.put, List.setIfInBounds_toArray, List.set_cons_zero, List.set_cons_succ, List.getElem_toArray, List.getElem_cons_zero, List.getElem_cons_succ])
  refine wpG_done (by kernel_rfl) ?_ _
  go_wp2
  go_ret
  exact ⟨rfl, by rw [← E2.out, ← HV.out]; exact HI.out, (Bz.of HB.out).trans HZ.out⟩
def sgnI (v : Int) : Int := if v < 0 then -1 else if 0 < v then 1 else 0
theorem isign_c {w : World} {x : Nat} {v : Int} (hx : IntAt w x v) : Calls Tryz.prog 55 #[pt x] w fun e w' => e = .returned (.int .i64 (sgnI v)) ∧ w = w' := by
  obtain ⟨xg, xs, b, hx⟩ := hx.rd
  have c0 := hx.blk.c0
  have c1 := hx.blk.c1
  obtain ⟨A, c, l, rfl, hl, hC, hN, hn⟩ := hx.wd
  have h0 := hN.zero
  rw [hn] at h0
  have hnn : 0 ≤ b := by rw [← hn]; exact nv_nonneg hN.1
  have hv := hx.val
  have hz := hx.nz
  have H0 := Lib.hid h0
  have HV := Lib.hid hv
  have HZ := Lib.hid hz
  have HN := Lib.hid hnn
  clear hx hC hN hn h0 hv hz hnn
  by_cases hl0 : 0 < l.length
  · have k1 : ((l.length : Int) == 0) = false := by rw [beq_eq_false_iff_ne]; omega
    have k2 : (l.length == 0) = false := by rw [beq_eq_false_iff_ne]; omega
    have hb : b ≠ 0 := fun h => by rw [H0.out.1 h] at hl0; simp at hl0
    have HB := Lib.hid hb
    clear hb
    cases xg
    all_goals
      go_enter Tryz.func55, Tryz.ntmps55
      go_wp2
      go_ret
      refine ⟨ret_int ?_, rfl⟩
      have h1 := HV.out
      have h2 := HN.out
      have h3 := HB.out
      unfold sg at h1
      unfold sgnI
      simp at h1
      subst h1
      split <;> (try split) <;> omega
  · have e : l = [] := List.eq_nil_of_length_eq_zero (by omega)
    have hb := H0.out.2 e
    have HB := Lib.hid hb
    subst e
    clear hb hl0
    go_enter Tryz.func55, Tryz.ntmps55
    go_wp2
    go_ret
    refine ⟨ret_int ?_, rfl⟩
    rw [HV.out, HB.out]
    unfold sg sgnI
    cases xg <;> simp
end Go.Proofs.YtaedkekjekbjmaaGreatDoor
