/- girderlaw18.JointsParts: its printed function answers true. Plain: no memory. -/
import Derived.Test.YtgljhgjjenengaaDoorJp
namespace Go.Proofs.YtgljhgjjenengaaDoor.XJt
open Go Go.RowKit Go.Proofs.YtgljhgjjenengaaDoorW.PrintWords Go.Proofs.YtgljhgjjenengaaDoorW.PrintMore
set_option maxRecDepth 100000

theorem ok_sub {l m : List S33} (h : l.all okJb = true) (hs : m.Sublist l) : m.all okJb = true := List.all_eq_true.2 fun j hj => List.all_eq_true.1 h j (hs.subset hj)
theorem pick_ok (a : Int) (n : Nat) (hn : 0 < n) (hn2 : n ≤ 16) : ∃ t : Nat, t < n ∧ girderkit_Pick.f a (n : Int) = some (t : Int) := by
  unfold girderkit_Pick.f
  rw [if_neg (by omega), if_neg (by omega)]
  have h1 := Int.tmod_lt_of_pos a (show (0 : Int) < n by omega)
  have h2 : -(n : Int) < a.tmod n := by
    have := Int.lt_tmod_of_pos a (show (0 : Int) < n by omega)
    omega
  by_cases h : a.tmod n < 0
  · rw [if_pos h]
    refine ⟨(a.tmod n + n).toNat, by omega, ?_⟩
    congr 1
    unfold wrap64
    omega
  · rw [if_neg h]
    exact ⟨(a.tmod n).toNat, by omega, by congr 1; omega⟩
theorem copy_ok {l : List S33} (h : l.length ≤ 16) : girderkit_CopyJoints.f l = some l := by
  unfold girderkit_CopyJoints.f
  rw [if_pos (by simp; omega)]; rfl
theorem eta33 (j : S33) : (⟨j.f0, j.f1, j.f2, j.f3⟩ : S33) = j := rfl

theorem parts_j4 (l : List S33) (a : Int) (k : Nat) (hF : Fine l) (ho : l.all okJb = true) (hl : l.length < 16) (h0 : 0 < l.length) : girderlaw18_JointsParts.j4 (k + 1) l a false = some true := by
  obtain ⟨t, ht, hp⟩ := pick_ok a l.length h0 (by omega)
  simp only [girderlaw18_JointsParts.j4]
  rw [if_neg (by simp), copy_ok (by omega), Option.bind_some, hp, Option.bind_some, if_pos (by omega), if_pos (by omega), if_pos (by omega), eta33, rd_nat ht]
  have hm : l[t] ∈ l := List.getElem_mem ht
  have hb : badJ l l[t] = true := by
    rw [← Bool.not_eq_false, badJ_iff]
    exact fun h => (h.2 _ hm).1 rfl
  rw [check_at [] hF hb (by rw [List.all_append, ho]; simpa using List.all_eq_true.1 ho _ hm) (by simp; omega)]
  simp
theorem parts_j3 (l : List S33) (a : Int) (k : Nat) (hF : Fine l) (ho : l.all okJb = true) (hl : l.length ≤ 16) : girderlaw18_JointsParts.j3 (k + 2) l a false = some true := by
  simp only [girderlaw18_JointsParts.j3]
  rw [if_neg (by simp)]
  by_cases h0 : l.length = 0
  · rw [if_pos (by omega)]
    simp [girderlaw18_JointsParts.j4]
  · rw [if_neg (by omega)]
    by_cases h16 : l.length = 16
    · rw [h16]; simp [girderlaw18_JointsParts.j4]
    · rw [show ((l.length : Int) == 16) = false by rw [beq_eq_false_iff_ne]; omega]
      exact parts_j4 l a k hF ho (by omega) (by omega)
theorem rev_take {l : List S33} {i : Nat} (hi : i < l.length) : l.reverse.take (i + 1) = l.reverse.take i ++ [l[l.length - 1 - i]] := by
  rw [List.take_succ_eq_append_getElem (by simpa using hi)]
  simp
theorem parts_l0 (l : List S33) (a1 a2 : Int) (hF : Fine l) (ho : l.all okJb = true) (hl : l.length ≤ 16) : ∀ d i k x14, i + d = l.length → 2 * d + 20 ≤ k → x14.Sublist (l.take i) →
    girderlaw18_JointsParts.l0 k l a1 a2 (l.reverse.take i) x14 (i : Int) = some true := by
  intro d
  induction d with
  | zero =>
    intro i k x14 hi hk hs
    obtain ⟨k, rfl⟩ : ∃ m, k = m + 3 := ⟨k - 3, by omega⟩
    obtain rfl : i = l.length := by omega
    have e1 : l.reverse.take l.length = l.reverse := List.take_of_length_le (by simp)
    rw [List.take_length] at hs
    have hlen := hs.length_le
    simp only [girderlaw18_JointsParts.l0]
    rw [if_neg (by omega), e1, check_fine hF.rev (by simpa using ho) (by simpa using hl), Option.bind_some, check_fine (hF.sub hs) (ok_sub ho hs) (by omega), Option.bind_some]
    simp only
    rw [if_pos trivial]
    exact parts_j3 l a2 k hF ho hl
  | succ d ih =>
    intro i k x14 hi hk hs
    obtain ⟨k, rfl⟩ : ∃ m, k = m + 2 := ⟨k - 2, by omega⟩
    have hlt : i < l.length := by omega
    have hne : ∀ j (h : j < i), (l[j]'(by omega)).f0 ≠ l[i].f0 := fun j h => (List.pairwise_iff_getElem.1 hF.2 j i (by omega) hlt h).1
    have hfind : joints_Find.f (k + 1) l (rd_T33 l (i : Int)).f0 = some ((i : Int), true) := by
      unfold joints_Find.f
      rw [rd_nat hlt]
      exact find_first l l[i].f0 i hlt hl rfl hne i 0 (k + 1) (by omega) (by omega)
    have hw1 : wrap64 (wrap64 ((l.length : Int) - 1) - (i : Int)) = ((l.length - 1 - i : Nat) : Int) := by unfold wrap64; omega
    have hw2 : wrap64 ((i : Int) + 1) = ((i + 1 : Nat) : Int) := by unfold wrap64; omega
    have hlr : (l.reverse.take i).length < 4398046511104 := by simp; omega
    have hlx : x14.length < 4398046511104 := by have := hs.length_le; simp at this; omega
    have htm : 0 ≤ (IntKind.u64.wrap (i : Int)).tmod 16 := Int.tmod_nonneg _ (by rw [IntKind.wrap_u64]; omega)
    simp only [girderlaw18_JointsParts.l0]
    rw [if_pos (by omega), if_pos (by omega), hfind, Option.bind_some]
    simp only
    rw [if_pos trivial, show ((i : Int) != (i : Int)) = false by simp]
    simp only [girderlaw18_JointsParts.j2]
    rw [if_neg (by simp), hw1, if_pos (by omega), if_pos (by omega), if_pos hlr, Option.bind_some, if_pos htm, eta33, eta33, rd_nat (by omega : l.length - 1 - i < l.length), ← rev_take hlt, hw2, rd_nat hlt]
    have hs1 : (x14 ++ [l[i]]).Sublist (l.take (i + 1)) := by
      rw [List.take_succ_eq_append_getElem hlt]
      exact hs.append (List.Sublist.refl _)
    have hs2 : x14.Sublist (l.take (i + 1)) := by
      rw [List.take_succ_eq_append_getElem hlt]
      exact hs.trans (List.sublist_append_left _ _)
    split
    · repeat rw [if_pos (by omega)]
      exact ih (i + 1) k _ (by omega) (by omega) hs1
    · exact ih (i + 1) k _ (by omega) (by omega) hs2
theorem jointsParts_pure (l : List S33) (a1 a2 : Int) (ho : l.all okJb = true) : girderlaw18_JointsParts.f 100 l a1 a2 = some true := by
  unfold girderlaw18_JointsParts.f girderlaw18_awake.f
  rw [Option.bind_some, if_pos rfl]
  by_cases hl : 16 < l.length
  · have e : joints_Check.f l = some (3, 0) := by unfold joints_Check.f; rw [if_pos ho, if_pos hl]
    rw [e, Option.bind_some]
    simp only
    rw [if_neg (by decide), if_pos trivial, if_pos trivial]
    congr 1
    simp; omega
  · rcases fine_or l [] Fine.nil with hF | ⟨i, j, hj, hF, hb⟩
    · rw [List.nil_append] at hF
      rw [check_fine hF ho (by omega), Option.bind_some]
      simp only
      rw [if_pos trivial]
      have := parts_l0 l a1 a2 hF ho (by omega) l.length 0 100 [] (by omega) (by omega) (by simp)
      simpa using this
    · rw [List.nil_append] at hF hb
      have hi : i < l.length := (List.getElem?_eq_some_iff.1 hj).1
      have hji : l[i] = j := (List.getElem?_eq_some_iff.1 hj).2
      have hsplit : l = l.take i ++ j :: l.drop (i + 1) := by
        rw [← hji, ← List.drop_eq_getElem_cons hi, List.take_append_drop]
      have hc : joints_Check.f l = some (280, (i : Int)) := by
        have h := check_at (l.drop (i + 1)) hF hb (by rw [← hsplit]; exact ho) (by rw [← hsplit]; omega)
        rw [← hsplit, List.length_take, Nat.min_eq_left (by omega)] at h
        exact h
      rw [hc, Option.bind_some]
      simp only
      rw [if_neg (by decide), if_neg (by decide), if_neg (by omega), show decide ((i : Int) ≥ (l.length : Int)) = false by simp; omega]
      simp only [girderlaw18_JointsParts.j0]
      have hw : wrap64 ((i : Int) + 1) = ((i + 1 : Nat) : Int) := by unfold wrap64; omega
      have h1 : joints_Check.f (l.take i) = some (0, 0) := check_fine hF (ok_sub ho (List.take_sublist _ _)) (by simp; omega)
      have h2 : joints_Check.f (l.take (i + 1)) = some (280, (i : Int)) := by
        rw [List.take_succ_eq_append_getElem hi, hji]
        have h := check_at [] hF hb (by
          rw [show l.take i ++ [j] = l.take (i + 1) by rw [List.take_succ_eq_append_getElem hi, hji]]
          exact ok_sub ho (List.take_sublist _ _)) (by simp; omega)
        rw [List.length_take, Nat.min_eq_left (by omega)] at h
        exact h
      rw [if_neg (by simp), if_pos (by omega), if_pos (by omega), Int.toNat_natCast, h1, Option.bind_some, hw, if_pos (by omega), if_pos (by omega), Int.toNat_natCast, h2, Option.bind_some]
      simp
end Go.Proofs.YtgljhgjjenengaaDoor.XJt
