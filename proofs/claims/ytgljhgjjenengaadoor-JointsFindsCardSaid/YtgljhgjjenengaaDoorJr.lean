/- What the printed functions of JointsChecks answer. Plain: no memory. -/
import Derived.Test.YtgljhgjjenengaaDoorXJt3
import Derived.Test.YtgljhgjjenengaaDoorXJt4
import Derived.Test.YtgljhgjjenengaaDoorYJt
import Derived.Test.YtgljhgjjenengaaDoorJl
namespace Go.Proofs.YtgljhgjjenengaaDoor.XJt
open Go Go.RowKit Go.Proofs.YtgljhgjjenengaaDoorW.PrintWords Go.Proofs.YtgljhgjjenengaaDoorW.PrintMore
set_option maxRecDepth 100000

theorem tl_inj {a b : ByteArray} : a.toList = b.toList ↔ a = b := by
  constructor
  · intro h
    rw [ByteArray.toList_eq, ByteArray.toList_eq] at h
    have := Array.ext' h
    cases a; cases b; simp_all
  · rintro rfl; rfl
theorem rd_in {l : List S33} {i : Nat} (h : i < l.length) : rd_T33 l (i : Int) = l[i] := by
  unfold rd_T33
  rw [Int.toNat_natCast, List.getD_eq_getElem?_getD, List.getElem?_eq_getElem h]; rfl
theorem w64_nat {i : Nat} (h : i < 9223372036854775807) : wrap64 ((i : Int) + 1) = ((i + 1 : Nat) : Int) := by unfold wrap64; omega
theorem name_l0 (s : ByteArray) (hs : s.size ≤ 8) : ∀ d i k, i + d = s.size → d < k → girderref18_Name.l0 k s (i : Int) = some ((List.range' i d).all (okAt s)) := by
  intro d
  induction d with
  | zero =>
    intro i k e hk
    obtain ⟨k, rfl⟩ : ∃ m, k = m + 1 := ⟨k - 1, by omega⟩
    simp only [girderref18_Name.l0]
    rw [if_neg (by omega)]; rfl
  | succ d ih =>
    intro i k e hk
    obtain ⟨k, rfl⟩ : ∃ m, k = m + 1 := ⟨k - 1, by omega⟩
    have hi : i < s.size := by omega
    have hb : bt s (i : Int) = ((s[i]'hi).toNat : Int) := by unfold bt; rw [Int.toNat_natCast, dif_pos hi]
    have oe : okAt s i = decide ((97 ≤ (s[i]'hi).toNat ∧ (s[i]'hi).toNat ≤ 122) ∨ (48 ≤ (s[i]'hi).toNat ∧ (s[i]'hi).toNat ≤ 57 ∧ 0 < i)) := by unfold okAt; rw [dif_pos hi]
    simp only [girderref18_Name.l0]
    rw [if_pos (by omega), if_pos (by omega), hb, w64_nat (by omega), ih (i + 1) k (by omega) (by omega), List.range'_succ, List.all_cons, oe]
    generalize (s[i]'hi).toNat = c
    generalize (List.range' (i + 1) d).all (okAt s) = q
    repeat' split
    all_goals (congr 1; cases q <;> simp <;> omega)
theorem name_f (s : ByteArray) (k : Nat) (hk : 20 ≤ k) : girderref18_Name.f k s = some (nmB s) := by
  obtain ⟨k, rfl⟩ : ∃ m, k = m + 1 := ⟨k - 1, by omega⟩
  unfold girderref18_Name.f nmB
  by_cases h0 : s.size = 0
  · rw [if_pos (by omega)]
    simp only [girderref18_Name.j0]
    rw [if_pos trivial]; simp [h0]
  · rw [if_neg (by omega)]
    simp only [girderref18_Name.j0]
    by_cases h8 : s.size ≤ 8
    · have hn := name_l0 s h8 s.size 0 k (by omega) (by omega)
      rw [show ((0 : Nat) : Int) = 0 from rfl] at hn
      rw [if_neg (by simp; omega), hn, ← List.range_eq_range']
      congr 1
      rw [show decide (0 < s.size ∧ s.size ≤ 8) = true by simp; omega]; simp
    · rw [if_pos (by simp; omega), show decide (0 < s.size ∧ s.size ≤ 8) = false by simp; omega]; simp
theorem may_f (j : S33) (k : Nat) (hk : 20 ≤ k) : girderref18_May.f k j.f0 j.f1 j.f2 j.f3 = some (nmB j.f0 && (nearB j.f1 && nearB j.f2) && !decide (7 < j.f3)) := by
  unfold girderref18_May.f girderref18_near.f nearB
  rw [name_f _ _ hk, Option.bind_some]
  generalize nmB j.f0 = q
  generalize j.f1 = x
  generalize j.f2 = y
  generalize j.f3 = z
  have ez : decide (z ≤ 7) = !decide (7 < z) := by
    by_cases h : 7 < z
    · simp [h]
    · simp [h]; omega
  rw [ez]
  generalize (!decide (7 < z)) = v
  cases q
  · simp
  · by_cases h1 : -1048576 ≤ x <;> by_cases h2 : x ≤ 1048576 <;> by_cases h3 : -1048576 ≤ y <;> by_cases h4 : y ≤ 1048576 <;> cases v <;> simp [h1, h2, h3, h4]
/-- Does the joint clash with one of these? -/
def clash (m : List S33) (x : S33) : Bool := m.any fun s => decide (s.f0 = x.f0) || decide (s.f1 = x.f1 ∧ s.f2 = x.f2)
theorem bad_clash (m : List S33) (x : S33) : badJ m x = (clash m x || !(nmB x.f0 && (nearB x.f1 && nearB x.f2) && !decide (7 < x.f3))) := by
  unfold badJ clash
  have : (m.any fun s => decide (s.f0 = x.f0) || decide (s.f1 = x.f1 ∧ s.f2 = x.f2)) = ((m.any fun s => decide (s.f0 = x.f0)) || (m.any fun s => decide (s.f1 = x.f1 ∧ s.f2 = x.f2))) := by
    induction m with
    | nil => rfl
    | cons a m ih => simp only [List.any_cons, ih]; grind
  rw [this]
  generalize (m.any fun s => decide (s.f0 = x.f0)) = a
  generalize (m.any fun s => decide (s.f1 = x.f1 ∧ s.f2 = x.f2)) = b
  generalize nmB x.f0 = c
  generalize (nearB x.f1 && nearB x.f2) = d
  generalize decide (7 < x.f3) = e
  revert a b c d e; decide
theorem chk_l1 (l : List S33) (i : Nat) (hi : i < l.length) (hl : l.length ≤ 16) (K : Nat) (R : Option (Int × Int)) (hR : ∀ k, K ≤ k → girderref18_Check.l0 k l ((i + 1 : Nat) : Int) = R) :
    ∀ d j k, j + d = i → K + d + 1 ≤ k → girderref18_Check.l1 k l (i : Int) (j : Int) = if clash ((l.take i).drop j) l[i] then some (280, (i : Int)) else R := by
  intro d
  induction d with
  | zero =>
    intro j k e hk
    obtain ⟨k, rfl⟩ : ∃ m, k = m + 1 := ⟨k - 1, by omega⟩
    simp only [girderref18_Check.l1]
    rw [if_neg (by omega), w64_nat (by omega), hR k (by omega), List.drop_of_length_le (by simp; omega)]; rfl
  | succ d ih =>
    intro j k e hk
    obtain ⟨k, rfl⟩ : ∃ m, k = m + 1 := ⟨k - 1, by omega⟩
    have hj : j < l.length := by omega
    have hd : (l.take i).drop j = l[j] :: (l.take i).drop (j + 1) := by
      rw [List.drop_eq_getElem_cons (by simp; omega)]; simp
    simp only [girderref18_Check.l1]
    rw [if_pos (by omega), if_pos (by omega), if_pos (by omega), if_pos (by omega), if_pos (by omega), rd_in hj, rd_in hi, w64_nat (by omega), ih (j + 1) k (by omega) (by omega), hd]
    simp only [tl_inj, clash, List.any_cons, Bool.or_eq_true, decide_eq_true_eq]
    by_cases h1 : l[j].f0 = l[i].f0
    · rw [if_pos h1, if_pos (Or.inl (Or.inl h1))]
    · rw [if_neg h1]
      by_cases h2 : l[j].f1 = l[i].f1
      · rw [if_pos h2]
        by_cases h3 : l[j].f2 = l[i].f2
        · rw [if_pos h3, if_pos (Or.inl (Or.inr ⟨h2, h3⟩))]
        · rw [if_neg h3]; simp [h1, h3]
      · rw [if_neg h2]; simp [h1, h2]
theorem chkL_cons (seen : List S33) (j : S33) (r : List S33) : chkL seen (j :: r) = if badJ seen j then (280, (seen.length : Int)) else chkL (seen ++ [j]) r := rfl
theorem chk_l0 (l : List S33) (hl : l.length ≤ 16) : ∀ d i k, i + d = l.length → 20 * d + 20 ≤ k → girderref18_Check.l0 k l (i : Int) = some (chkL (l.take i) (l.drop i)) := by
  intro d
  induction d with
  | zero =>
    intro i k e hk
    obtain ⟨k, rfl⟩ : ∃ m, k = m + 1 := ⟨k - 1, by omega⟩
    simp only [girderref18_Check.l0]
    rw [if_neg (by omega), List.drop_of_length_le (by omega)]; rfl
  | succ d ih =>
    intro i k e hk
    obtain ⟨k, rfl⟩ : ∃ m, k = m + 1 := ⟨k - 1, by omega⟩
    have hi : i < l.length := by omega
    simp only [girderref18_Check.l0]
    rw [if_pos (by omega), if_pos (by omega), rd_in hi, may_f _ _ (by omega), Option.bind_some]
    have h1 := chk_l1 l i hi hl (20 * d + 20) _ (fun k hk => ih (i + 1) k (by omega) hk) i 0 k (by omega) (by omega)
    rw [List.drop_zero] at h1
    rw [show (0 : Int) = ((0 : Nat) : Int) from rfl, h1, List.drop_eq_getElem_cons hi]
    rw [chkL_cons, bad_clash, show l.take i ++ [l[i]] = l.take (i + 1) by rw [List.take_succ_eq_append_getElem hi]]
    have hlen : (l.take i).length = i := by simp; omega
    rw [hlen]
    generalize (nmB l[i].f0 && (nearB l[i].f1 && nearB l[i].f2) && !decide (7 < l[i].f3)) = q
    generalize clash (l.take i) l[i] = r
    cases q <;> cases r <;> simp
theorem ref_check (l : List S33) (ho : l.all okJb = true) : girderref18_Check.f 400 l = joints_Check.f l := by
  unfold girderref18_Check.f joints_Check.f
  rw [if_pos ho]
  by_cases hl : 16 < l.length
  · rw [if_pos (by omega), if_pos hl]
  · rw [if_neg (by omega), if_neg hl]
    have := chk_l0 l (by omega) l.length 0 400 (by omega) (by omega)
    simpa using this
theorem kept_pure (l : List S33) (hB : l.length ≤ 4611686018427387904) : ∀ d i k, i + d = l.length + 12 → d < k → girderkit_KeptJoints.l0 k l (l ++ marks 12) (i : Int) = some true := by
  have hlen : (l ++ marks 12).length = l.length + 12 := by rw [List.length_append, marks_len]
  intro d
  induction d with
  | zero =>
    intro i k e hk
    obtain ⟨k, rfl⟩ : ∃ m, k = m + 1 := ⟨k - 1, by omega⟩
    simp only [girderkit_KeptJoints.l0]
    rw [if_neg (by omega)]
  | succ d ih =>
    intro i k e hk
    obtain ⟨k, rfl⟩ : ∃ m, k = m + 1 := ⟨k - 1, by omega⟩
    simp only [girderkit_KeptJoints.l0]
    rw [if_pos (by omega), w64_nat (by omega), ih (i + 1) k (by omega) (by omega), rd_in (by omega : i < (l ++ marks 12).length)]
    by_cases hi : i < l.length
    · rw [if_pos (by omega), if_pos (by omega), rd_in hi, List.getElem_append_left hi, if_pos (by simp), if_neg (by omega)]
    · rw [if_neg (by omega), if_pos (by omega), if_pos (by omega), List.getElem_append_right (by omega)]
      have hw : wrap64 ((i : Int) - (l.length : Int)) = ((i - l.length : Nat) : Int) := by unfold wrap64; omega
      have hm : (marks 12)[i - l.length]'(by rw [marks_len]; omega) = mkJ ((i - l.length : Nat) : Int) := by simp [marks]
      rw [hw, mkJ_f, Option.bind_some, hm, if_pos (by simp [mkJ])]
end Go.Proofs.YtgljhgjjenengaaDoor.XJt
