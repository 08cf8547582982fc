/- girderlaw18.JointsParts: what its printed function answers. Plain: no memory. -/
import Derived.Test.YtgljhgjjenengaaDoorXJt
namespace Go.Proofs.YtgljhgjjenengaaDoor.XJt
open Go Go.RowKit Go.Proofs.YtgljhgjjenengaaDoorW.PrintWords Go.Proofs.YtgljhgjjenengaaDoorW.PrintMore
set_option maxRecDepth 100000

/-- A joint that may stand by itself. -/
def okOne (j : S33) : Bool := nmB j.f0 && (nearB j.f1 && nearB j.f2) && !decide (7 < j.f3)
def apartJ (a b : S33) : Prop := a.f0 ≠ b.f0 ∧ ¬ (a.f1 = b.f1 ∧ a.f2 = b.f2)
/-- A list that may be. -/
def Fine (l : List S33) : Prop := (∀ j ∈ l, okOne j = true) ∧ l.Pairwise apartJ
theorem badJ_iff {seen : List S33} {j : S33} : badJ seen j = false ↔ okOne j = true ∧ ∀ s ∈ seen, apartJ s j := by
  unfold badJ okOne apartJ
  simp only [Bool.or_eq_false_iff, Bool.and_eq_true, Bool.not_eq_true', Bool.not_eq_false', List.any_eq_false, decide_eq_true_eq, decide_eq_false_iff_not, Bool.and_eq_true]
  grind
theorem chkL_fine : ∀ (r seen : List S33), (∀ j ∈ r, okOne j = true) → r.Pairwise apartJ → (∀ s ∈ seen, ∀ j ∈ r, apartJ s j) → chkL seen r = (0, 0)
  | [], _, _, _, _ => rfl
  | j :: r, seen, h1, h2, h3 => by
    rw [chkL, if_neg]
    · rw [List.pairwise_cons] at h2
      refine chkL_fine r (seen ++ [j]) (fun x hx => h1 x (List.mem_cons_of_mem _ hx)) h2.2 ?_
      intro s hs x hx
      rcases List.mem_append.1 hs with hs | hs
      · exact h3 s hs x (List.mem_cons_of_mem _ hx)
      · rw [List.mem_singleton.1 hs]; exact h2.1 x hx
    · rw [Bool.not_eq_true]
      exact badJ_iff.2 ⟨h1 j (List.mem_cons_self ..), fun s hs => h3 s hs j (List.mem_cons_self ..)⟩
theorem Fine.chk {l : List S33} (h : Fine l) : chkL [] l = (0, 0) := chkL_fine l [] h.1 h.2 (by simp)
/-- The first that may not be. -/
theorem chkL_at : ∀ (r seen : List S33) (j : S33) (q : List S33), (∀ j ∈ r, okOne j = true) → r.Pairwise apartJ → (∀ s ∈ seen, ∀ j ∈ r, apartJ s j) → badJ (seen ++ r) j = true → chkL seen (r ++ j :: q) = (280, ((seen.length + r.length : Nat) : Int))
  | [], seen, j, q, _, _, _, hb => by
    rw [List.nil_append, chkL, if_pos (by simpa using hb)]; simp
  | x :: r, seen, j, q, h1, h2, h3, hb => by
    rw [List.cons_append, chkL, if_neg]
    · rw [List.pairwise_cons] at h2
      rw [chkL_at r (seen ++ [x]) j q (fun y hy => h1 y (List.mem_cons_of_mem _ hy)) h2.2 ?_ (by simpa using hb)]
      · simp; omega
      · intro s hs y hy
        rcases List.mem_append.1 hs with hs | hs
        · exact h3 s hs y (List.mem_cons_of_mem _ hy)
        · rw [List.mem_singleton.1 hs]; exact h2.1 y hy
    · rw [Bool.not_eq_true]
      exact badJ_iff.2 ⟨h1 x (List.mem_cons_self ..), fun s hs => h3 s hs x (List.mem_cons_self ..)⟩
theorem fine_or : ∀ (r seen : List S33), Fine seen → Fine (seen ++ r) ∨ ∃ i j, r[i]? = some j ∧ Fine (seen ++ r.take i) ∧ badJ (seen ++ r.take i) j = true
  | [], seen, h => .inl (by simpa using h)
  | x :: r, seen, h => by
    by_cases hb : badJ seen x = true
    · exact .inr ⟨0, x, rfl, by simpa using h, by simpa using hb⟩
    · have hb' := badJ_iff.1 (Bool.not_eq_true _ ▸ hb)
      have hf : Fine (seen ++ [x]) := by
        refine ⟨fun y hy => ?_, ?_⟩
        · rcases List.mem_append.1 hy with hy | hy
          · exact h.1 y hy
          · rw [List.mem_singleton.1 hy]; exact hb'.1
        · rw [List.pairwise_append]
          exact ⟨h.2, by simp, fun s hs y hy => by rw [List.mem_singleton.1 hy]; exact hb'.2 s hs⟩
      rcases fine_or r (seen ++ [x]) hf with h1 | ⟨i, j, e, h1, h2⟩
      · exact .inl (by simpa using h1)
      · exact .inr ⟨i + 1, j, by simpa using e, by simpa using h1, by simpa using h2⟩
theorem Fine.nil : Fine [] := ⟨by simp, List.Pairwise.nil⟩
theorem Fine.sub {l m : List S33} (h : Fine l) (hs : m.Sublist l) : Fine m := ⟨fun j hj => h.1 j (hs.subset hj), h.2.sublist hs⟩
theorem apartJ_symm {a b : S33} (h : apartJ a b) : apartJ b a := ⟨fun e => h.1 e.symm, fun e => h.2 ⟨e.1.symm, e.2.symm⟩⟩
theorem Fine.rev {l : List S33} (h : Fine l) : Fine l.reverse := ⟨fun j hj => h.1 j (by simpa using hj), by
  rw [List.pairwise_reverse]
  exact h.2.imp apartJ_symm⟩
theorem check_fine {l : List S33} (h : Fine l) (ho : l.all okJb = true) (hl : l.length ≤ 16) : joints_Check.f l = some (0, 0) := by
  unfold joints_Check.f
  rw [if_pos ho, if_neg (by omega), h.chk]
theorem check_at {l : List S33} {j : S33} (q : List S33) (h : Fine l) (hb : badJ l j = true) (ho : (l ++ j :: q).all okJb = true) (hl : (l ++ j :: q).length ≤ 16) : joints_Check.f (l ++ j :: q) = some (280, (l.length : Int)) := by
  unfold joints_Check.f
  rw [if_pos ho, if_neg (by omega), chkL_at l [] j q h.1 h.2 (by simp) (by simpa using hb)]
  simp
theorem toList_inj {a b : ByteArray} : a.toList = b.toList ↔ a = b := by
  constructor
  · intro h
    rw [ByteArray.toList_eq, ByteArray.toList_eq] at h
    have := Array.ext' h
    cases a; cases b; simp_all
  · rintro rfl; rfl
theorem rd_nat {l : List S33} {i : Nat} (h : i < l.length) : rd_T33 l (i : Int) = l[i] := by
  unfold rd_T33; simp [h]
theorem find_first (l : List S33) (nm : ByteArray) (i : Nat) (hi : i < l.length) (hl : l.length ≤ 16) (he : l[i].f0 = nm) (hn : ∀ j (h : j < i), (l[j]'(by omega)).f0 ≠ nm) : ∀ d j k, j + d = i → d < k → joints_Find.l0 k l nm (l.length : Int) (j : Int) = some ((i : Int), true) := by
  intro d
  induction d with
  | zero =>
    intro j k e hk
    obtain ⟨k, rfl⟩ : ∃ m, k = m + 1 := ⟨k - 1, by omega⟩
    obtain rfl : j = i := by omega
    simp only [joints_Find.l0]
    rw [if_pos (by omega), if_pos (by omega), if_pos (by omega), rd_nat hi, if_pos (by rw [he])]
  | succ d ih =>
    intro j k e hk
    obtain ⟨k, rfl⟩ : ∃ m, k = m + 1 := ⟨k - 1, by omega⟩
    have hj : j < l.length := by omega
    simp only [joints_Find.l0]
    rw [if_pos (by omega), if_pos (by omega), if_pos (by omega), rd_nat hj, if_neg (by rw [toList_inj]; exact hn j (by omega)), show wrap64 ((j : Int) + 1) = ((j + 1 : Nat) : Int) by unfold wrap64; omega]
    exact ih (j + 1) k (by omega) (by omega)
end Go.Proofs.YtgljhgjjenengaaDoor.XJt
