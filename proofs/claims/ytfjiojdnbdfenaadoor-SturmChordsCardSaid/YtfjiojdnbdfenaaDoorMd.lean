import Derived.Test.YtfjiojdnbdfenaaDoorMc
import Derived.Test.YtfjiojdnbdfenaaDoorMb
import Derived.Deep.DeepCutAuto
import Derived.Deep.LoopGhost
import Derived.Deep.CutBlock
import Derived.Test.YtfjiojdnbdfenaaDoorMa
/- Plain laws: the loops of sturm's part and below (and of the reference's) count as St.bel does. No program. -/
namespace St
/-- What a loop holds: the determinant ahead, the one now, the count, the sign. -/
structure S where
  ah : Int
  nw : Int
  c : Int
  s : Int
def sgn (n : Int) : Int := if n < 0 then -1 else if 0 < n then 1 else 0
def nxt (t o : Int) (q : S) : Int := t * q.nw - o * o * q.ah
/-- The sign that is taken. -/
def tk (last : Bool) (n s : Int) : Int := if sgn n = 0 ∧ last = false then -s else sgn n
def stp (last : Bool) (n : Int) (q : S) : S := if tk last n q.s = -q.s then ⟨q.nw, n, q.c + 1, -q.s⟩ else ⟨q.nw, n, q.c, q.s⟩
def run : List (Int × Int) → S → S
  | [], q => q
  | (t, o) :: r, q => run r (stp r.isEmpty (nxt t o q) q)
theorem run_cons (t o : Int) (r : List (Int × Int)) (q : S) : run ((t, o) :: r) q = run r (stp r.isEmpty (nxt t o q) q) := rfl
def sq (l : List (Int × Int)) : List (Int × Int) := l.map fun x => (x.1, x.2 * x.2)
theorem sq_pos {o : Int} (h : o ≠ 0) : 0 < o * o := by
  rcases Int.lt_or_gt_of_ne h with h | h
  · exact Int.mul_pos_of_neg_of_neg h h
  · exact Int.mul_pos h h
theorem hd_sq {r : List (Int × Int)} (h : ∀ x ∈ r, x.2 ≠ 0) : (hd (sq r) = 0) ↔ r.isEmpty = true := by
  cases r with
  | nil => simp [sq, hd]
  | cons x r =>
    have := sq_pos (h x List.mem_cons_self)
    have e : hd (sq (x :: r)) = x.2 * x.2 := rfl
    rw [e]
    exact ⟨fun h => absurd h (by omega), fun h => by simp at h⟩
theorem nx_S (t o : Int) (q : S) (h : q.s = 1 ∨ q.s = -1) : nx t (o * o) (q.s * q.nw, -(q.s * q.ah)) = q.s * nxt t o q := by
  unfold nx nxt
  simp only
  rcases h with h | h <;> rw [h] <;> simp only [Int.one_mul, Int.neg_mul, Int.mul_neg, Int.neg_neg] <;> omega
theorem stp_last {n : Int} {q : S} (h : q.s = 1 ∨ q.s = -1) : (stp true n q).c = q.c + ng (q.s * n) := by
  unfold stp tk sgn ng
  simp only [Bool.true_eq_false, and_false, if_false]
  rcases h with h | h <;> rw [h] <;> by_cases h1 : n < 0 <;> by_cases h2 : 0 < n <;> simp [h1, h2] <;> omega
theorem stp_mid {n : Int} {q : S} (h : q.s = 1 ∨ q.s = -1) : (stp false n q).c = q.c + pos (q.s * n) ∧ ((stp false n q).s = 1 ∨ (stp false n q).s = -1) ∧
    ((stp false n q).s * (stp false n q).nw, -((stp false n q).s * (stp false n q).ah)) = st (q.s * n) (q.s * q.nw, -(q.s * q.ah)) := by
  unfold stp tk sgn pos st
  rcases h with h | h <;> rw [h] <;> by_cases h1 : n < 0 <;> by_cases h2 : 0 < n <;> simp [h1, h2] <;> omega
theorem run_bel : ∀ (r : List (Int × Int)) (q : S), (q.s = 1 ∨ q.s = -1) → (∀ x ∈ r, x.2 ≠ 0) → (run r q).c = q.c + bel (sq r) (q.s * q.nw, -(q.s * q.ah)) := by
  intro r
  induction r with
  | nil => intro q _ _; simp [run, sq, bel]
  | cons x r ih =>
    obtain ⟨t, o⟩ := x
    intro q hs h
    have ho : o ≠ 0 := h (t, o) List.mem_cons_self
    have hr : ∀ x ∈ r, x.2 ≠ 0 := fun x hx => h x (List.mem_cons_of_mem _ hx)
    have e : sq ((t, o) :: r) = (t, o * o) :: sq r := rfl
    have hoo := sq_pos ho
    rw [run_cons, e, bel_cons, if_neg (show ¬ o * o = 0 by omega), nx_S t o q hs]
    by_cases hl : r.isEmpty = true
    · rw [hl, if_pos ((hd_sq hr).2 hl)]
      have : r = [] := List.isEmpty_iff.1 hl
      subst this
      show (stp true _ q).c = _
      rw [stp_last hs]; simp [sq, bel]
    · have hl2 : r.isEmpty = false := by simpa using hl
      obtain ⟨h1, h2, h3⟩ := stp_mid (n := nxt t o q) hs
      rw [hl2, if_neg (fun h => hl ((hd_sq hr).1 h)), ih _ h2 hr, h1, h3]
      omega
def S0 : S := ⟨1, 1, 0, 1⟩
/-- A part's count. -/
theorem part_bel (t : Int) (r : List (Int × Int)) (h : ∀ x ∈ r, x.2 ≠ 0) : (run ((t, 0) :: r) S0).c = bel (sq ((t, 0) :: r)) (1, 0) := by
  have e : sq ((t, 0) :: r) = (t, 0) :: sq r := rfl
  have hn : nxt t 0 S0 = t := by unfold nxt S0; simp
  have hx : nx t 0 (1, 0) = t := by unfold nx; simp
  rw [run_cons, e, bel_cons, if_pos rfl, hn, hx]
  by_cases hl : r.isEmpty = true
  · rw [hl, if_pos ((hd_sq h).2 hl)]
    have : r = [] := List.isEmpty_iff.1 hl
    subst this
    show (stp true t S0).c = _
    rw [stp_last (.inl rfl)]; simp [sq, bel, S0]
  · have hl2 : r.isEmpty = false := by simpa using hl
    obtain ⟨h1, h2, h3⟩ := stp_mid (n := t) (q := S0) (.inl rfl)
    rw [hl2, if_neg (fun h' => hl ((hd_sq h).1 h')), run_bel r _ h2 h, h1, h3]
    unfold S0
    simp only [Int.one_mul]
    have e2 : st t (1, -1) = st t (1, 0) := by unfold st; rfl
    rw [e2]; omega

/-- A chain's rows: the diagonal less x, what couples each to the one ahead (p: the first). -/
def rw_ (x : Int) : Int → List Int → List Int → List (Int × Int)
  | _, [], _ => []
  | p, a :: d, o => (a - x, p) :: rw_ x (o.headD 0) d o.tail
theorem rw_cons (x p a : Int) (d o : List Int) : rw_ x p (a :: d) o = (a - x, p) :: rw_ x (o.headD 0) d o.tail := rfl
theorem rw_len (x : Int) : ∀ (d : List Int) (p : Int) (o : List Int), (rw_ x p d o).length = d.length := by
  intro d
  induction d with
  | nil => intro p o; rfl
  | cons a d ih => intro p o; rw [rw_cons, List.length_cons, ih, List.length_cons]
theorem rw_app (x z : Int) (d2 o2 : List Int) : ∀ (o1 d1 : List Int) (p : Int), d1.length = o1.length + 1 → rw_ x p (d1 ++ d2) (o1 ++ z :: o2) = rw_ x p d1 o1 ++ rw_ x z d2 o2 := by
  intro o1
  induction o1 with
  | nil =>
    intro d1 p h
    match d1, h with
    | [a], _ => simp [rw_]
  | cons y o1 ih =>
    intro d1 p h
    match d1, h with
    | a :: d1, h =>
      have h : d1.length = o1.length + 1 := by simpa using h
      simp only [List.cons_append, rw_cons, List.headD_cons, List.tail_cons, ih d1 y h]
theorem rw_ne (x : Int) : ∀ (d o : List Int) (p : Int), d.length = o.length + 1 → (∀ y ∈ o, y ≠ 0) → ∃ t r, rw_ x p d o = (t, p) :: r ∧ ∀ z ∈ r, z.2 ≠ 0 := by
  intro d
  induction d with
  | nil => intro o p h; simp at h
  | cons a d ih =>
    intro o p h ho
    refine ⟨a - x, rw_ x (o.headD 0) d o.tail, rfl, ?_⟩
    cases o with
    | nil =>
      have : d = [] := List.eq_nil_of_length_eq_zero (by simpa using h)
      subst this
      intro z hz; cases hz
    | cons y o =>
      obtain ⟨t, r, e, hr⟩ := ih o y (by simpa using h) (fun z hz => ho z (List.mem_cons_of_mem _ hz))
      simp only [List.headD_cons, List.tail_cons, e]
      intro z hz
      rcases List.mem_cons.1 hz with rfl | hz
      · exact ho y List.mem_cons_self
      · exact hr z hz
/-- How many of a chain are below x. -/
def cnt (x : Int) (d o : List Int) : Int := bel (sq (rw_ x 0 d o)) (1, 0)
/-- A part's count, as the loop goes. -/
def prt (x : Int) (d o : List Int) : Int := (run (rw_ x 0 d o) S0).c
theorem prt_cnt (x : Int) (d o : List Int) (h : d.length = o.length + 1) (ho : ∀ y ∈ o, y ≠ 0) : prt x d o = cnt x d o := by
  obtain ⟨t, r, e, hr⟩ := rw_ne x d o 0 h ho
  unfold prt cnt
  rw [e, part_bel t r hr]
theorem hd_rw (x p : Int) (d o : List Int) (h : d ≠ []) : hd (sq (rw_ x p d o)) = p * p := by
  cases d with
  | nil => exact absurd rfl h
  | cons a d => rfl
theorem cnt_app (x : Int) (d1 d2 o1 o2 : List Int) (h : d1.length = o1.length + 1) : cnt x (d1 ++ d2) (o1 ++ 0 :: o2) = cnt x d1 o1 + cnt x d2 o2 := by
  unfold cnt
  rw [rw_app x 0 d2 o2 o1 d1 0 h]
  have e : sq (rw_ x 0 d1 o1 ++ rw_ x 0 d2 o2) = sq (rw_ x 0 d1 o1) ++ sq (rw_ x 0 d2 o2) := List.map_append
  rw [e, bel_app]
  cases d2 with
  | nil => rfl
  | cons a d => rfl
theorem sq_nonneg (l : List (Int × Int)) : ∀ x ∈ sq l, 0 ≤ x.2 := by
  intro x hx
  obtain ⟨y, _, rfl⟩ := List.mem_map.1 hx
  show 0 ≤ y.2 * y.2
  by_cases h : y.2 = 0
  · rw [h]; decide
  · have := sq_pos h; omega
theorem cnt_range (x : Int) (d o : List Int) : 0 ≤ cnt x d o ∧ cnt x d o ≤ d.length := by
  have := bel_range (sq (rw_ x 0 d o)) (1, 0)
  rw [show (sq (rw_ x 0 d o)).length = d.length by unfold sq; rw [List.length_map, rw_len]] at this
  exact this
theorem low_rw {x y : Int} (h : x ≤ y) : ∀ (d : List Int) (p : Int) (o : List Int), Low (sq (rw_ x p d o)) (sq (rw_ y p d o)) := by
  intro d
  induction d with
  | nil => intro p o; trivial
  | cons a d ih =>
    intro p o
    refine ⟨by show a - y ≤ a - x; omega, rfl, ?_, ih _ _⟩
    show 0 ≤ p * p
    by_cases h : p = 0
    · rw [h]; decide
    · have := sq_pos h; omega
theorem hd_rw0 (x : Int) (d o : List Int) : hd (sq (rw_ x 0 d o)) = 0 := by cases d <;> rfl
theorem cnt_mono {x y : Int} (h : x ≤ y) (d o : List Int) : cnt x d o ≤ cnt y d o := bel_mono' (low_rw h d 0 o) (hd_rw0 x d o)
theorem mem_rw (x : Int) (P : Int → Prop) (Q : Int → Prop) : ∀ (d : List Int) (p : Int) (o : List Int), (∀ a ∈ d, P a) → Q p → Q 0 → (∀ y ∈ o, Q y) → ∀ z ∈ rw_ x p d o, ∃ a, P a ∧ z.1 = a - x ∧ Q z.2 := by
  intro d
  induction d with
  | nil => intro p o _ _ _ _ z hz; cases hz
  | cons a d ih =>
    intro p o hd hp h0 ho z hz
    rw [rw_cons] at hz
    rcases List.mem_cons.1 hz with rfl | hz
    · exact ⟨a, hd a List.mem_cons_self, rfl, hp⟩
    · refine ih _ _ (fun b hb => hd b (List.mem_cons_of_mem _ hb)) ?_ h0 ?_ z hz
      · cases o with
        | nil => exact h0
        | cons y o => exact ho y List.mem_cons_self
      · cases o with
        | nil => intro y hy; cases hy
        | cons y o => exact fun z hz => ho z (List.mem_cons_of_mem _ hz)
theorem sq_le {p M : Int} (h1 : -M ≤ p) (h2 : p ≤ M) : p * p ≤ M * M := by
  rcases Int.le_total 0 p with h | h
  · exact Int.mul_le_mul h2 h2 h (by omega)
  · have := Int.mul_le_mul (show -p ≤ M by omega) (show -p ≤ M by omega) (by omega) (by omega : 0 ≤ M)
    rw [Int.neg_mul_neg] at this; exact this
theorem cnt_none {x M : Int} (hM : 0 < M) {d o : List Int} (hd : ∀ a ∈ d, -M ≤ a ∧ a ≤ M) (ho : ∀ y ∈ o, -M ≤ y ∧ y ≤ M) (hx : x ≤ -(4 * M)) : cnt x d o = 0 := by
  unfold cnt
  refine bel_none M hM _ _ (fun z hz => ?_) (.inl (hd_rw0 x d o))
  obtain ⟨y, hy, rfl⟩ := List.mem_map.1 hz
  obtain ⟨a, h1, h2, h3⟩ := mem_rw x (fun a => -M ≤ a ∧ a ≤ M) (fun y => -M ≤ y ∧ y ≤ M) d 0 o hd ⟨by omega, by omega⟩ ⟨by omega, by omega⟩ ho y hy
  refine ⟨by show 3 * M ≤ y.1; omega, ?_, sq_le h3.1 h3.2⟩
  by_cases h : y.2 = 0
  · show 0 ≤ y.2 * y.2; rw [h]; decide
  · have := sq_pos h; show 0 ≤ y.2 * y.2; omega
theorem cnt_all {x M : Int} (hM : 0 < M) {d o : List Int} (hd : ∀ a ∈ d, -M ≤ a ∧ a ≤ M) (ho : ∀ y ∈ o, -M ≤ y ∧ y ≤ M) (hx : 4 * M ≤ x) : cnt x d o = d.length := by
  unfold cnt
  rw [bel_all M hM (sq (rw_ x 0 d o)) (1, 0) (fun z hz => ?_) (.inl (hd_rw0 x d o))]
  · unfold sq; rw [List.length_map, rw_len]
  · obtain ⟨y, hy, rfl⟩ := List.mem_map.1 hz
    obtain ⟨a, h1, h2, h3⟩ := mem_rw x (fun a => -M ≤ a ∧ a ≤ M) (fun y => -M ≤ y ∧ y ≤ M) d 0 o hd ⟨by omega, by omega⟩ ⟨by omega, by omega⟩ ho y hy
    refine ⟨by show y.1 ≤ -(3 * M); omega, ?_, sq_le h3.1 h3.2⟩
    by_cases h : y.2 = 0
    · show 0 ≤ y.2 * y.2; rw [h]; decide
    · have := sq_pos h; show 0 ≤ y.2 * y.2; omega
/-- Turned end to end. -/
theorem rw_snoc (x b z : Int) (d : List Int) (o : List Int) (p : Int) (h : d.length = o.length + 1) : rw_ x p (d ++ [b]) (o ++ [z]) = rw_ x p d o ++ [(b - x, z)] := by
  rw [rw_app x z [b] [] o d p h]; rfl
theorem rev_rw (x : Int) : ∀ (d o : List Int) (p : Int), d.length = o.length + 1 → rev (sq (rw_ x p d o)) = sq (rw_ x 0 d.reverse o.reverse) := by
  intro d
  induction d with
  | nil => intro o p h; simp at h
  | cons a d ih =>
    intro o p h
    cases o with
    | nil =>
      have : d = [] := List.eq_nil_of_length_eq_zero (by simpa using h)
      subst this
      simp [rw_, sq, rev, hd]
    | cons y o =>
      have h : d.length = o.length + 1 := by simpa using h
      rw [rw_cons, List.headD_cons, List.tail_cons, List.reverse_cons, List.reverse_cons, rw_snoc x a y d.reverse o.reverse 0 (by simpa using h)]
      have e : sq ((a - x, p) :: rw_ x y d o) = (a - x, p * p) :: sq (rw_ x y d o) := rfl
      have e2 : sq (rw_ x 0 d.reverse o.reverse ++ [(a - x, y)]) = sq (rw_ x 0 d.reverse o.reverse) ++ [(a - x, y * y)] := List.map_append
      rw [e, rev_cons, ih o y h, e2, hd_rw x y d o (by intro h0; rw [h0] at h; simp at h)]
theorem cnt_rev (x : Int) (d o : List Int) (h : d.length = o.length + 1) : cnt x d.reverse o.reverse = cnt x d o := by
  unfold cnt
  rw [← rev_rw x d o 0 h, bel_rev _ _ (Nat.le_refl _) (hd_rw0 x d o) (sq_nonneg _)]
/-- Only the squares of what couples count. -/
theorem sq_rw (x : Int) : ∀ (d o o' : List Int) (p p' : Int), p * p = p' * p' → o.map (fun y => y * y) = o'.map (fun y => y * y) → sq (rw_ x p d o) = sq (rw_ x p' d o') := by
  intro d
  induction d with
  | nil => intro o o' p p' _ _; rfl
  | cons a d ih =>
    intro o o' p p' hp ho
    show (a - x, p * p) :: sq (rw_ x (o.headD 0) d o.tail) = (a - x, p' * p') :: sq (rw_ x (o'.headD 0) d o'.tail)
    rw [hp]
    congr 1
    cases o with
    | nil => cases o' with
      | nil => rfl
      | cons y' o' => simp at ho
    | cons y o => cases o' with
      | nil => simp at ho
      | cons y' o' =>
        simp only [List.map_cons, List.cons.injEq] at ho
        exact ih _ _ _ _ ho.1 ho.2
theorem cnt_signs (x : Int) (d o o' : List Int) (h : o.map (fun y => y * y) = o'.map (fun y => y * y)) : cnt x d o = cnt x d o' := by
  unfold cnt; rw [sq_rw x d o o' 0 0 rfl h]
theorem cnt_move (x : Int) (d o : List Int) : cnt 0 (d.map (· - x)) o = cnt x d o := by
  have : ∀ (d o : List Int) (p : Int), rw_ 0 p (d.map (· - x)) o = rw_ x p d o := by
    intro d
    induction d with
    | nil => intro o p; rfl
    | cons a d ih => intro o p; rw [List.map_cons, rw_cons, rw_cons, ih]; simp
  unfold cnt; rw [this]
/-- No couplings: how many of the diagonal are below. -/
theorem cnt_zeros (x : Int) : ∀ (d o : List Int), (∀ y ∈ o, y = 0) → cnt x d o = (d.filter fun a => decide (a < x)).length := by
  intro d
  induction d with
  | nil => intro o _; rfl
  | cons a d ih =>
    intro o ho
    have e : cnt x (a :: d) o = ng (a - x) + cnt x d o.tail := by
      have h0 : o.headD 0 = 0 := by
        cases o with
        | nil => rfl
        | cons y o => exact ho y List.mem_cons_self
      show bel ((a - x, 0 * 0) :: sq (rw_ x (o.headD 0) d o.tail)) (1, 0) = _
      rw [h0, bel_cons, if_pos (hd_rw0 x d o.tail)]
      unfold nx cnt
      simp
    rw [e, ih o.tail (fun y hy => ho y (List.mem_of_mem_tail hy)), List.filter_cons]
    unfold ng
    by_cases h : a < x
    · rw [if_pos (by omega), if_pos (by simpa using h), List.length_cons]; omega
    · rw [if_neg (by omega), if_neg (by simpa using h)]; omega
theorem rw_drop (x : Int) : ∀ (k : Nat) (d : List Int) (p : Int) (o : List Int) (hk : k < d.length), d.length = o.length + 1 →
    ∃ y, (k = 0 → y = p) ∧ (0 < k → ∃ h' : k - 1 < o.length, y = o[k - 1]) ∧ (rw_ x p d o).drop k = (d[k] - x, y) :: (rw_ x p d o).drop (k + 1) := by
  intro k
  induction k with
  | zero =>
    intro d p o hk hl
    cases d with
    | nil => simp at hk
    | cons a d => exact ⟨p, fun _ => rfl, fun h => absurd h (by decide), rfl⟩
  | succ k ih =>
    intro d p o hk hl
    cases d with
    | nil => simp at hk
    | cons a d =>
      cases o with
      | nil =>
        have : d = [] := List.eq_nil_of_length_eq_zero (by simpa using hl)
        subst this
        simp at hk
      | cons z o =>
        obtain ⟨y, h1, h2, h3⟩ := ih d z o (by simpa using hk) (by simpa using hl)
        refine ⟨y, fun h => (by cases h), fun _ => ?_, ?_⟩
        · cases k with
          | zero => exact ⟨by simp, h1 rfl⟩
          | succ k =>
            obtain ⟨h4, h5⟩ := h2 (Nat.succ_pos _)
            exact ⟨by simp at h4 ⊢; omega, by simpa using h5⟩
        · rw [rw_cons, List.headD_cons, List.tail_cons, List.drop_succ_cons, List.drop_succ_cons, h3]; simp
end St


/- Sizes; numbers that live; lists of floats that are read. -/
namespace Go.Proofs.YtfjiojdnbdfenaaDoor
open Go Go.RowKit Nv GFl
open Go.Proofs.YtfjiojdnbdfenaaDoorW.PrintWords (Kd)
set_option maxRecDepth 100000

/-- A size below 2^m. -/
def Bd (m : Nat) (v : Int) : Prop := v.natAbs < 2 ^ m
theorem two_pow_le {m n : Nat} (h : m ≤ n) : 2 ^ m ≤ 2 ^ n := Nat.pow_le_pow_right (by decide) h
theorem Bd.le {m n : Nat} {v : Int} (h : Bd m v) (k : m ≤ n) : Bd n v := Nat.lt_of_lt_of_le h (two_pow_le k)
theorem Bd.sm {m : Nat} {v : Int} (h : Bd m v) (hm : m ≤ 32 * 1000000) : Sm (v.natAbs : Int) := sm_nat h hm
theorem Bd.sub {m : Nat} {a b : Int} (h : Bd m a) (k : Bd m b) : Bd (m + 1) (a - b) := by
  unfold Bd at *
  rw [Nat.pow_succ]
  omega
theorem Bd.add {m : Nat} {a b : Int} (h : Bd m a) (k : Bd m b) : Bd (m + 1) (a + b) := by
  unfold Bd at *
  rw [Nat.pow_succ]
  omega
theorem Bd.neg {m : Nat} {a : Int} (h : Bd m a) : Bd m (-a) := by unfold Bd at *; rwa [Int.natAbs_neg]
theorem Bd.mul {m n : Nat} {a b : Int} (h : Bd m a) (k : Bd n b) : Bd (m + n) (a * b) := by
  unfold Bd at *
  rw [Int.natAbs_mul, Nat.pow_add]
  exact Nat.mul_lt_mul'' h k
theorem Bd.one : Bd 1 1 := by unfold Bd; decide

/-- These numbers are there. -/
def Live (w : World) (L : List (Nat × Int)) : Prop := ∀ p ∈ L, IntAt w p.1 p.2
theorem Live.nil (w : World) : Live w [] := fun _ h => by cases h
theorem Live.cons {w : World} {b : Nat} {v : Int} {L : List (Nat × Int)} (h : IntAt w b v) (k : Live w L) : Live w ((b, v) :: L) := fun p hp => by
  rcases List.mem_cons.1 hp with rfl | hp
  · exact h
  · exact k p hp
theorem Live.below {w w' : World} {L : List (Nat × Int)} (h : Live w L) (hb : Below w.heap.size w w') : Live w' L := fun p hp => (h p hp).below hb
theorem Live.hd {w : World} {b : Nat} {v : Int} {L : List (Nat × Int)} (h : Live w ((b, v) :: L)) : IntAt w b v := h (b, v) List.mem_cons_self
theorem Live.tl {w : World} {x : Nat × Int} {L : List (Nat × Int)} (h : Live w (x :: L)) : Live w L := fun p hp => h p (List.mem_cons_of_mem _ hp)
theorem Live.bz {w w' : World} {z : Nat} {u : Int} {L : List (Nat × Int)} (h : Live w L) (hz : IntAt w z u) (hn : ∀ p ∈ L, p.1 ≠ z) (hb : Bz z w w') : Live w' L := fun p hp => (h p hp).keep hz (hn p hp) hb
theorem Live.lt {w : World} {L : List (Nat × Int)} (h : Live w L) : ∀ p ∈ L, p.1 < w.heap.size := fun p hp => (h p hp).lt

/-- A slice of floats. -/
def kF : Kd Nat := Kd.scalar (Value.float .f64) (fun _ => rfl)
def Fl (w : World) (A : Option Addr) (l : List Nat) : Prop := Kd.C kF w A l.length l
theorem Fl.below {w w' : World} {A : Option Addr} {l : List Nat} (h : Fl w A l) (hb : Below w.heap.size w w') : Fl w' A l := Kd.C_below h hb
theorem Fl.at {w : World} {A : Option Addr} {l : List Nat} (h : Fl w A l) {i : Nat} (hi : i < l.length) : ∃ ad, A = some ad ∧ w.cell? (ad.add i) = some (.float .f64 l[i]) := by
  obtain ⟨ad, e, hc⟩ := h.2.2 (by omega)
  obtain ⟨cs, _, hK, hcs⟩ := hc i _ (List.getElem?_eq_getElem hi)
  have hK : cs = [.float .f64 l[i]] := hK
  subst hK
  have := hcs 0 _ rfl
  rw [show kF.sz = 1 from rfl] at this
  exact ⟨ad, e, by simpa using this⟩
theorem Fl.mk {w : World} {A : Option Addr} {l : List Nat} (hl : l.length ≤ 9223372036854775807) (h : 0 < l.length → ∃ ad, A = some ad ∧ ∀ i (hi : i < l.length), w.cell? (ad.add i) = some (.float .f64 l[i])) : Fl w A l := by
  refine ⟨rfl, hl, fun h0 => ?_⟩
  obtain ⟨ad, e, hc⟩ := h h0
  refine ⟨ad, e, fun j p hp => ⟨[.float .f64 p], rfl, rfl, fun i u hu => ?_⟩⟩
  have hj := (List.getElem?_eq_some_iff.1 hp).1
  have hv := (List.getElem?_eq_some_iff.1 hp).2
  have hi : i = 0 := by have := (List.getElem?_eq_some_iff.1 hu).1; simpa using this
  subst hi
  have : u = .float .f64 p := by simpa using hu.symm
  rw [this, show kF.sz = 1 from rfl, Nat.mul_one, Nat.add_zero, ← hv]
  exact hc j hj
/-- A float of a chain: not too great. -/
structure Cf (x : Nat) : Prop where
  w : W64 x
  r : rg x ≤ 6858982232485265408
theorem Cf.fin {x : Nat} (h : Cf x) : rg x < 9218868437227405312 := by have := h.r; omega
theorem mg500 : mg B52 6858982232485265408 = p2 1574 := by
  have : (6858982232485265408 : Nat) = 1523 * B52 + 0 := by decide
  rw [this, mg_B 1523 0 (by decide) (by decide)]
  have e : B52 + 0 = p2 52 := by rw [p2_def]
  rw [e, ← p2_add]
theorem lt_pow {a m : Nat} (h : a ≤ p2 m) : a < 2 ^ (m + 1) := by
  rw [p2_def] at h
  exact Nat.lt_of_le_of_lt h (Nat.pow_lt_pow_right (by decide) (Nat.lt_succ_self m))
theorem bd_of {v : Int} {a m n : Nat} (e : v.natAbs = a) (h : a ≤ p2 m) (hn : m + 1 = n) : Bd n v := by
  subst hn
  unfold Bd
  rw [e]
  exact lt_pow h
theorem Cf.val {x : Nat} (h : Cf x) : Bd 1575 (val x) := by
  have h1 := mg_mono (B := B52) B52_pos h.r
  rw [mg500] at h1
  have e : (GFl.val x).natAbs = mg B52 (rg x) := by rw [val_eq']; show (if _ then -((mg B52 (rg x) : Nat) : Int) else ((mg B52 (rg x) : Nat) : Int)).natAbs = _; generalize mg B52 (rg x) = m; split <;> omega
  exact bd_of e h1 rfl
end Go.Proofs.YtfjiojdnbdfenaaDoor


/- sturm.part. -/
namespace Go.Proofs.YtfjiojdnbdfenaaDoor
open Go Go.RowKit Nv GFl
open Go.Proofs.YtfjiojdnbdfenaaDoorW.PrintWords (Kd)
set_option maxRecDepth 100000

/-- What holds at the head of part's loop. -/
structure PI (W w : World) (d o : List Nat) (xb : Nat) (X : Int) (k : Nat) (q : St.S) (ba bn : Nat) : Prop where
  live : Live w [(ba, q.ah), (bn, q.nw), (xb, X)]
  na : W.heap.size ≤ ba
  nn : W.heap.size ≤ bn
  ne : ba ≠ bn
  nx : xb < W.heap.size
  below : Below W.heap.size W w
  s : q.s = 1 ∨ q.s = -1
  c0 : 0 ≤ q.c
  c1 : q.c ≤ k
  bn : Bd (1600 * k + 1) q.nw
  ba : 1 ≤ k → Bd (1600 * (k - 1) + 1) q.ah
  run : St.run ((St.rw_ X 0 (d.map val) (o.map val)).drop k) q = St.run (St.rw_ X 0 (d.map val) (o.map val)) St.S0
theorem GPost.live {z : Nat} {v u : Int} {w w' : World} {e : Ending} {L : List (Nat × Int)} (h : GPost z v w e w') (hz : IntAt w z u) (hL : Live w L) (hn : ∀ p ∈ L, p.1 ≠ z) : Live w' ((z, v) :: L) :=
  Live.cons h.2.1 (hL.bz hz hn h.2.2)
theorem stp_y {last : Bool} {n : Int} {q : St.S} (h : St.tk last n q.s = -q.s) : St.stp last n q = ⟨q.nw, n, q.c + 1, -q.s⟩ := if_pos h
theorem stp_n {last : Bool} {n : Int} {q : St.S} (h : ¬ St.tk last n q.s = -q.s) : St.stp last n q = ⟨q.nw, n, q.c, q.s⟩ := if_neg h
theorem stp_ah (last : Bool) (n : Int) (q : St.S) : (St.stp last n q).ah = q.nw ∧ (St.stp last n q).nw = n := by unfold St.stp; split <;> exact ⟨rfl, rfl⟩
theorem stp_cs (last : Bool) (n : Int) (q : St.S) (h : q.s = 1 ∨ q.s = -1) : ((St.stp last n q).s = 1 ∨ (St.stp last n q).s = -1) ∧ ((St.stp last n q).c = q.c ∨ (St.stp last n q).c = q.c + 1) := by
  unfold St.stp
  split
  · exact ⟨by show -q.s = 1 ∨ -q.s = -1; omega, .inr rfl⟩
  · exact ⟨h, .inl rfl⟩
theorem PI.next {W wr w5 : World} {d o : List Nat} {xb : Nat} {X : Int} {k : Nat} {q : St.S} {ba bn bx : Nat} (h : PI W wr d o xb X k q ba bn) (hlt : k < d.length) (cd : ∀ x ∈ d, Cf x) (co : ∀ x ∈ o, Cf x) (hl : d.length = o.length + 1) {y : Int}
    (hy0 : k = 0 → y = 0) (hy1 : 0 < k → ∃ h' : k - 1 < (o.map val).length, y = (o.map val)[k - 1]) (hrow : (St.rw_ X 0 (d.map val) (o.map val)).drop k = (val d[k] - X, y) :: (St.rw_ X 0 (d.map val) (o.map val)).drop (k + 1)) (bX : Bd 1577 X)
    (hL : Live w5 [(bx, St.nxt (val d[k] - X) y q), (bn, q.nw), (xb, X)]) (hbx : wr.heap.size ≤ bx) (hB : Below W.heap.size W w5) :
    PI W w5 d o xb X (k + 1) (St.stp (decide (k + 1 = d.length)) (St.nxt (val d[k] - X) y q) q) bn bx := by
  obtain ⟨e1, e2⟩ := stp_ah (decide (k + 1 = d.length)) (St.nxt (val d[k] - X) y q) q
  obtain ⟨s1, s2⟩ := stp_cs (decide (k + 1 = d.length)) (St.nxt (val d[k] - X) y q) q h.s
  have hbn : bn < wr.heap.size := h.live.lt (bn, q.nw) (by simp)
  have hsz := h.below.size
  refine ⟨?_, h.nn, by omega, by omega, h.nx, hB, s1, ?_, ?_, ?_, fun _ => ?_, ?_⟩
  · rw [e1, e2]
    exact Live.cons hL.tl.hd (Live.cons hL.hd (Live.cons hL.tl.tl.hd (Live.nil _)))
  · have := h.c0; omega
  · have := h.c1; omega
  · rw [e2]
    unfold St.nxt
    have b1 : Bd (1578 + (1600 * k + 1)) ((val d[k] - X) * q.nw) := Bd.mul (Bd.sub ((cd _ (List.getElem_mem hlt)).val.le (by omega)) bX) h.bn
    refine (Bd.sub (b1.le (show 1578 + (1600 * k + 1) ≤ 1600 * k + 1580 by omega)) ?_).le (show 1600 * k + 1580 + 1 ≤ 1600 * (k + 1) + 1 by omega)
    rcases Nat.eq_zero_or_pos k with h0 | h0
    · rw [hy0 h0, Int.mul_zero, Int.zero_mul]
      unfold Bd
      exact Nat.two_pow_pos _
    · obtain ⟨h', hy⟩ := hy1 h0
      have by_ : Bd 1575 y := by
        rw [hy, List.getElem_map]
        exact (co _ (List.getElem_mem _)).val
      exact (Bd.mul (Bd.mul by_ by_) (h.ba h0)).le (by omega)
  · rw [e1]
    exact h.bn.le (by omega)
  · have hr := h.run
    rw [hrow, St.run_cons] at hr
    have e : ((St.rw_ X 0 (d.map val) (o.map val)).drop (k + 1)).isEmpty = decide (k + 1 = d.length) := by
      rw [Bool.eq_iff_iff, List.isEmpty_iff, List.drop_eq_nil_iff, St.rw_len, List.length_map]
      simp; omega
    rw [e] at hr
    exact hr
theorem stp_val {last : Bool} {n : Int} {q : St.S} {s sN : Int} (h1 : sgnI n = sN) (h2 : q.s = s) : (St.stp last n q).c = q.c + (if (if sN = 0 ∧ last = false then -s else sN) = -s then 1 else 0) ∧ (St.stp last n q).s = (if (if sN = 0 ∧ last = false then -s else sN) = -s then -s else s) := by
  have h3 : St.sgn n = sN := h1
  unfold St.stp St.tk
  rw [h2, h3]
  generalize (if sN = 0 ∧ last = false then -s else sN) = t
  split <;> simp [*]
structure LV (W w : World) (L : List (Nat × Int)) : Prop where
  live : Live w L
  below : Below W.heap.size W w
theorem LV.new {W w w' : World} {L : List (Nat × Int)} {b : Nat} {v : Int} (h : LV W w L) (hi : IntAt w' b v) (hb : Below w.heap.size w w') : LV W w' ((b, v) :: L) := ⟨Live.cons hi (h.live.below hb), bl_then h.below hb⟩
theorem LV.put {W w w' : World} {L : List (Nat × Int)} {z : Nat} {u v : Int} {e : Ending} (h : LV W w ((z, u) :: L)) (hg : GPost z v w e w') (hn : ∀ p ∈ L, p.1 ≠ z) (hz : W.heap.size ≤ z) : LV W w' ((z, v) :: L) :=
  ⟨hg.live h.live.hd h.live.tl hn, hg.2.2.below h.below h.below.size hz⟩
set_option maxHeartbeats 4000000 in
theorem part_c (A B : Option Addr) (cA cB : Nat) (d o : List Nat) (xb : Nat) (X : Int) (W : World) (hd : Fl W A d) (ho : Fl W B o) (cd : ∀ x ∈ d, Cf x) (co : ∀ x ∈ o, Cf x) (hl : d.length = o.length + 1) (hn : d.length ≤ 64) (hx : IntAt W xb X) (bx : Bd 1577 X) (hT : Tab W) :
    Calls Tryd.prog 55 #[.slice A d.length cA, .slice B o.length cB, pt xb] W fun e w' => e = .returned (.int .i64 (St.prt X (d.map val) (o.map val))) ∧ Below W.heap.size W w' := by
  have HD := Lib.hid hd
  have HO := Lib.hid ho
  have CD := Lib.hid cd
  have CO := Lib.hid co
  have HL := Lib.hid hl
  have HX := Lib.hid hx
  have BX := Lib.hid bx
  have HT := Lib.hid hT
  clear hd ho cd co hl hx bx hT
  go_enter Tryd.func55, Tryd.ntmps55
  go_wp2_with fail
  refine (newInt_c 1 (by decide) (by decide) _).mono ?_
  rintro e w1 ⟨b1, rfl, n1, i1, h1⟩
  have N1 := Lib.hid n1
  have I1 := Lib.hid i1
  have H1 := Lib.hid h1
  clear n1 i1 h1
  go_wp2_with fail
  refine (newInt_c 1 (by decide) (by decide) _).mono ?_
  rintro e w2 ⟨b2, rfl, n2, i2, h2⟩
  have P0 : Hid (PI W w2 d o xb X 0 St.S0 b1 b2) := Lib.hid ⟨Live.cons (I1.out.below h2) (Live.cons i2 (Live.cons ((HX.out.below H1.out).below h2) (Live.nil _))), N1.out, Nat.le_trans H1.out.size n2, by have := I1.out.lt; omega, HX.out.lt, bl_then H1.out h2, .inl rfl, by decide, by decide, Bd.one.le (by omega), fun h => absurd h (by decide), by rw [List.drop_zero]⟩
  clear n2 i2 h2 N1 I1 H1
  go_wp2
  go_loopw [7, 8, 9, 10, 20] (fun v7 v8 v9 v10 v20 wr => ∃ (k : Nat) (c s : Int) (ba bn : Nat), v7 = pt ba ∧ v8 = pt bn ∧ v9 = .int .i64 c ∧ v10 = .int .i64 s ∧ v20 = .int .i64 k ∧ k ≤ d.length ∧ Hid (∃ q : St.S, q.c = c ∧ q.s = s ∧ PI W wr d o xb X k q ba bn)) (fun _ _ _ _ v _ => d.length - (intOf v).toNat)
  case atStart => exact ⟨0, 0, 1, b1, b2, rfl, rfl, rfl, rfl, rfl, Nat.zero_le _, Lib.hid ⟨St.S0, rfl, rfl, P0.out⟩⟩
  case round =>
    obtain ⟨k, c, s, ba, bn, rfl, rfl, rfl, rfl, rfl, hk, hq⟩ := hrel
    clear P0
    by_cases hlt : k < d.length
    · have l1 : decide (k < d.length) = true := decide_eq_true hlt
      have cx := CD.out _ (List.getElem_mem hlt)
      obtain ⟨ad, hA, hc⟩ := HD.out.at hlt
      subst hA
      obtain ⟨q, hq1, hq2, hq3⟩ := hq.out
      have hcell : wr.cell? (ad.add k) = some (.float .f64 d[k]) := (hq3.below.cell (World.block_lt_of_cell? W _ hc)).trans hc
      obtain ⟨y, hy0, hy1, hrow⟩ := St.rw_drop X k (d.map val) 0 (o.map val) (by simpa using hlt) (by simpa using HL.out)
      rw [List.getElem_map] at hrow
      have HROW := Lib.hid hrow
      have HY0 := Lib.hid hy0
      have HY1 := Lib.hid hy1
      have Q1 := Lib.hid hq1
      have Q2 := Lib.hid hq2
      have Q3 := Lib.hid hq3
      have CX := Lib.hid cx
      clear hq hq1 hq2 hq3 hc hrow hy0 hy1 cx
      go_wp2_with fail
      (with_reducible refine (whole_c _ CX.out.w CX.out.fin _ (HT.out.below Q3.out.below)).mono ?_)
      rintro e w3 ⟨bx, rfl, n3, i3, h3⟩
      have V3 : Hid (LV W w3 [(bx, val d[k]), (ba, q.ah), (bn, q.nw), (xb, X)]) := Lib.hid ⟨Live.cons i3 (Q3.out.live.below h3), bl_then Q3.out.below h3⟩
      have hne : ∀ p ∈ [(ba, q.ah), (bn, q.nw), (xb, X)], p.1 ≠ bx := fun p hp => by have := Q3.out.live.lt p hp; omega
      have hbx : W.heap.size ≤ bx := Nat.le_trans Q3.out.below.size n3
      have NE := Lib.hid hne
      have N3 := Lib.hid n3
      have HBX := Lib.hid hbx
      have BT : Hid (Bd 1578 (val d[k] - X)) := Lib.hid (Bd.sub (CX.out.val.le (by omega)) BX.out)
      clear n3 i3 h3 hne hbx
      go_wp2_with fail
      (with_reducible refine (sub_c V3.out.live.hd V3.out.live.hd V3.out.live.tl.tl.tl.hd (CX.out.val.sm (by omega)) (BX.out.sm (by omega))).mono ?_)
      rintro e w4 hg
      obtain rfl := hg.1
      have V4 := Lib.hid (V3.out.put hg NE.out HBX.out)
      clear hg V3
      go_wp2_with fail
      (with_reducible refine (mul_c V4.out.live.hd V4.out.live.hd V4.out.live.tl.tl.hd (BT.out.sm (by omega)) (Q3.out.bn.sm (by omega))).mono ?_)
      rintro e w5 hg
      obtain rfl := hg.1
      have V5 := Lib.hid (V4.out.put hg NE.out HBX.out)
      clear hg V4
      rcases Nat.eq_zero_or_pos k with h0 | h0
      · have l3 : decide (0 < k) = false := decide_eq_false (by omega)
        have VX : Hid (LV W w5 [(bx, St.nxt (val d[k] - X) y q), (ba, q.ah), (bn, q.nw), (xb, X)]) := by
          have hy : y = 0 := HY0.out h0
          have e : St.nxt (val d[k] - X) y q = (val d[k] - X) * q.nw := by unfold St.nxt; rw [hy]; simp
          rw [e]; exact V5
        clear V5 h0
        have hS : s = 1 ∨ s = -1 := by have := Q3.out.s; rw [Q2.out] at this; exact this
        have hN : sgnI (St.nxt (val d[k] - X) y q) = -1 ∨ sgnI (St.nxt (val d[k] - X) y q) = 0 ∨ sgnI (St.nxt (val d[k] - X) y q) = 1 := by unfold sgnI; (repeat' split) <;> simp
        obtain ⟨sN, hsN⟩ : ∃ sN, sgnI (St.nxt (val d[k] - X) y q) = sN := ⟨_, rfl⟩
        have sc := isign_c VX.out.live.hd
        rw [hsN] at sc hN
        have SC := Lib.hid sc
        have sv := stp_val (last := decide (k + 1 = d.length)) hsN Q2.out
        have cq := Q1.out
        rw [cq] at sv
        have c0 : 0 ≤ c := by have := Q3.out.c0; rw [cq] at this; exact this
        have c1 : c ≤ 64 := by have := Q3.out.c1; rw [cq] at this; omega
        have NX := Lib.hid (Q3.out.next hlt CD.out CO.out HL.out HY0.out HY1.out HROW.out BX.out (Live.cons VX.out.live.hd (Live.cons VX.out.live.tl.tl.hd (Live.cons VX.out.live.tl.tl.tl.hd (Live.nil _)))) N3.out VX.out.below)
        have SV := Lib.hid sv
        clear sc hsN sv cq
        by_cases hlast : k + 1 = d.length
        all_goals
          have HLA := Lib.hid hlast
          rcases hS with rfl | rfl <;> rcases hN with rfl | rfl | rfl
        all_goals
          have sv := SV.out
          have nx := NX.out
          first
            | rw [decide_eq_true HLA.out] at sv nx
            | rw [decide_eq_false HLA.out] at sv nx
          simp at sv
          have SV2 := Lib.hid sv
          have NX2 := Lib.hid nx
          first
            | have l2 : decide ((k : Int) < (d.length : Int) - 1) = false := decide_eq_false (by have := HLA.out; omega)
            | have l2 : decide ((k : Int) < (d.length : Int) - 1) = true := decide_eq_true (by have := HLA.out; omega)
          clear sv SV hlast nx NX
          go_wp2_with ((with_reducible refine (SC.out).mono ?_); rintro e w9 ⟨rfl, rfl⟩)
          go_roundw
          case rel => exact ⟨k + 1, _, _, bn, bx, rfl, rfl, rfl, rfl, by go_num, by omega, Lib.hid ⟨_, SV2.out.1, SV2.out.2, NX2.out⟩⟩
          case measure => simp [intOf]; omega
      · obtain ⟨j, rfl⟩ : ∃ j, k = j + 1 := ⟨k - 1, by omega⟩
        have l3 : decide (0 < j + 1) = true := decide_eq_true (by omega)
        obtain ⟨hj, hy⟩ := HY1.out (by omega)
        have hjo : j < o.length := by simpa using hj
        have hyo : y = val o[j] := by rw [hy, List.getElem_map]; rfl
        have co1 := CO.out _ (List.getElem_mem hjo)
        obtain ⟨bd, hB, hc⟩ := HO.out.at hjo
        subst hB
        have hcell2 : w5.cell? (bd.add j) = some (.float .f64 o[j]) := (V5.out.below.cell (World.block_lt_of_cell? W _ hc)).trans hc
        have hol : j < o.length := hjo
        have CO1 := Lib.hid co1
        have HYO := Lib.hid hyo
        clear hy hyo hj co1 hc
        go_wp2_with fail
        (with_reducible refine (whole_c _ CO1.out.w CO1.out.fin _ (HT.out.below V5.out.below)).mono ?_)
        rintro e w6 ⟨bo, rfl, n6, i6, h6⟩
        have V6 := Lib.hid (V5.out.new i6 h6)
        have hne2 : ∀ p ∈ [(bx, (val d[j + 1] - X) * q.nw), (ba, q.ah), (bn, q.nw), (xb, X)], p.1 ≠ bo := fun p hp => by have := V5.out.live.lt p hp; omega
        have NE2 := Lib.hid hne2
        have HBO := Lib.hid (Nat.le_trans V5.out.below.size n6)
        have BO : Hid (Bd 1575 (val o[j])) := Lib.hid CO1.out.val
        clear n6 i6 h6 hne2
        go_wp2_with fail
        (with_reducible refine (mul_c V6.out.live.hd V6.out.live.hd V6.out.live.hd (BO.out.sm (by omega)) (BO.out.sm (by omega))).mono ?_)
        rintro e w7 hg
        obtain rfl := hg.1
        have V7 := Lib.hid (V6.out.put hg NE2.out HBO.out)
        clear hg V6
        go_wp2_with fail
        (with_reducible refine (mul_c V7.out.live.hd V7.out.live.hd V7.out.live.tl.tl.hd ((Bd.mul BO.out BO.out).sm (by omega)) ((Q3.out.ba (by omega)).sm (by omega))).mono ?_)
        rintro e w8 hg
        obtain rfl := hg.1
        have V8 := Lib.hid (V7.out.put hg NE2.out HBO.out)
        clear hg V7
        go_wp2_with fail
        have V8' : Hid (LV W w8 [(bx, (val d[j + 1] - X) * q.nw), (bo, val o[j] * val o[j] * q.ah), (ba, q.ah), (bn, q.nw), (xb, X)]) := Lib.hid ⟨Live.cons V8.out.live.tl.hd (Live.cons V8.out.live.hd V8.out.live.tl.tl), V8.out.below⟩
        (with_reducible refine (sub_c V8.out.live.tl.hd V8.out.live.tl.hd V8.out.live.hd ((Bd.mul BT.out Q3.out.bn).sm (by omega)) ((Bd.mul (Bd.mul BO.out BO.out) (Q3.out.ba (by omega))).sm (by omega))).mono ?_)
        rintro e w10 hg
        obtain rfl := hg.1
        have V9 := Lib.hid (V8'.out.put hg (fun p hp => by
          rcases List.mem_cons.1 hp with rfl | hp
          · exact fun h => NE2.out (bx, _) List.mem_cons_self h.symm
          · exact NE.out p hp) HBX.out)
        have VX : Hid (LV W w10 [(bx, St.nxt (val d[j + 1] - X) y q), (ba, q.ah), (bn, q.nw), (xb, X)]) := by
          refine Lib.hid ⟨Live.cons ?_ V9.out.live.tl.tl, V9.out.below⟩
          have := V9.out.live.hd
          unfold St.nxt
          rw [HYO.out]
          exact this
        clear hg V8 V8' V9 V5
        have hS : s = 1 ∨ s = -1 := by have := Q3.out.s; rw [Q2.out] at this; exact this
        have hN : sgnI (St.nxt (val d[j + 1] - X) y q) = -1 ∨ sgnI (St.nxt (val d[j + 1] - X) y q) = 0 ∨ sgnI (St.nxt (val d[j + 1] - X) y q) = 1 := by unfold sgnI; (repeat' split) <;> simp
        obtain ⟨sN, hsN⟩ : ∃ sN, sgnI (St.nxt (val d[j + 1] - X) y q) = sN := ⟨_, rfl⟩
        have sc := isign_c VX.out.live.hd
        rw [hsN] at sc hN
        have SC := Lib.hid sc
        have sv := stp_val (last := decide (j + 1 + 1 = d.length)) hsN Q2.out
        have cq := Q1.out
        rw [cq] at sv
        have c0 : 0 ≤ c := by have := Q3.out.c0; rw [cq] at this; exact this
        have c1 : c ≤ 64 := by have := Q3.out.c1; rw [cq] at this; omega
        have NX := Lib.hid (Q3.out.next hlt CD.out CO.out HL.out HY0.out HY1.out HROW.out BX.out (Live.cons VX.out.live.hd (Live.cons VX.out.live.tl.tl.hd (Live.cons VX.out.live.tl.tl.tl.hd (Live.nil _)))) N3.out VX.out.below)
        have SV := Lib.hid sv
        clear sc hsN sv cq
        by_cases hlast : j + 1 + 1 = d.length
        all_goals
          have HLA := Lib.hid hlast
          rcases hS with rfl | rfl <;> rcases hN with rfl | rfl | rfl
        all_goals
          have sv := SV.out
          have nx := NX.out
          first
            | rw [decide_eq_true HLA.out] at sv nx
            | rw [decide_eq_false HLA.out] at sv nx
          simp at sv
          have SV2 := Lib.hid sv
          have NX2 := Lib.hid nx
          first
            | have l2 : decide ((j : Int) + 1 < (d.length : Int) - 1) = false := decide_eq_false (by have := HLA.out; omega)
            | have l2 : decide ((j : Int) + 1 < (d.length : Int) - 1) = true := decide_eq_true (by have := HLA.out; omega)
          clear sv SV hlast nx NX
          go_wp2_with ((with_reducible refine (SC.out).mono ?_); rintro e w9 ⟨rfl, rfl⟩)
          go_roundw
          case rel => exact ⟨j + 1 + 1, _, _, bn, bx, rfl, rfl, rfl, rfl, by go_num, by omega, Lib.hid ⟨_, SV2.out.1, SV2.out.2, NX2.out⟩⟩
          case measure => simp [intOf]; omega
    · have hk2 : k = d.length := by omega
      have l1 : decide (k < d.length) = false := decide_eq_false hlt
      have fin : c = St.prt X (d.map val) (o.map val) := by
        obtain ⟨q, h1, h2, h3⟩ := hq.out
        have hr := h3.run
        rw [List.drop_eq_nil_iff.2 (by rw [St.rw_len, List.length_map]; omega)] at hr
        unfold St.prt
        rw [← hr, ← h1]; rfl
      have bl : Below W.heap.size W wr := by obtain ⟨q, h1, h2, h3⟩ := hq.out; exact h3.below
      have FIN := Lib.hid fin
      have BL := Lib.hid bl
      clear fin bl hk2 hq
      go_wp2
      go_ret
      exact ⟨ret_int FIN.out, BL.out⟩
end Go.Proofs.YtfjiojdnbdfenaaDoor


/- What the small functions of package round answer: signs, steps, what is settled. -/
namespace Go.Proofs.YtfjiojdnbdfenaaDoor
open Go Go.RowKit GFl
set_option maxRecDepth 100000
attribute [local go_sem] run_f64frombits run_neg_f64

/-- Neither NaN nor an infinity. -/
def fin (x : Nat) : Bool := decide (rg x < 9218868437227405312)
theorem fin_t {x : Nat} (h : rg x < 9218868437227405312) : fin x = true := by unfold fin; simp [h]
theorem fin_f {x : Nat} (h : 9218868437227405312 ≤ rg x) : fin x = false := by unfold fin; simp; omega
theorem fin_isn {x : Nat} (h : fin x = true) : isn x = false := by unfold fin at h; rw [isn_eq]; simp at h ⊢; omega
/-- A float's sign as a number (0 of NaN). -/
def sgI (x : Nat) : Int := if isn x then 0 else if 0 < plc x then 1 else if plc x < 0 then -1 else 0

theorem gt0 {x : Nat} (hx : W64 x) : (FloatKind.f64.format.order x 0 == some .gt) = (!isn x && decide (0 < plc x)) := by
  rw [t_gt hx (w_const (by decide)), isn0, plc0]; simp
theorem lt0 {x : Nat} (hx : W64 x) : (FloatKind.f64.format.order x 0 == some .lt) = (!isn x && decide (plc x < 0)) := by
  rw [t_lt hx (w_const (by decide)), isn0, plc0]; simp
theorem eq0 {x : Nat} (hx : W64 x) : (FloatKind.f64.format.order x 0 == some .eq) = (!isn x && decide (plc x = 0)) := by
  rw [t_eq hx (w_const (by decide)), isn0, plc0]; simp
theorem le0 {x : Nat} (hx : W64 x) : (FloatKind.f64.format.order x 0 == some .lt || FloatKind.f64.format.order x 0 == some .eq) = (!isn x && decide (plc x ≤ 0)) := by
  rw [t_le hx (w_const (by decide)), isn0, plc0]; simp

/-- The float next to x, up or down; a nought's has the step's sign. -/
def stepW (x : Nat) (up : Bool) : Nat := if rg x = 0 then (if up then 1 else 9223372036854775809) else if up = !neg x then x + 1 else x - 1

attribute [local go_sem] run_f64bits
/-- The way once nought is told by the sign. -/
def modeW (x : Nat) (m : Int) : Int := if m = 3 then (if neg x then 2 else 1) else m
/-- What is settled of the nearest float and where the exact number lies. -/
def settleW (x : Nat) (off m : Int) : Nat :=
  if rg x = 9218868437227405312 then
    if (neg x = false ∧ modeW x m = 1) ∨ (neg x = true ∧ modeW x m = 2) then wd (neg x) 9218868437227405311 else x
  else if (off < 0 ∧ modeW x m = 1) ∨ (0 < off ∧ modeW x m = 2) then stepW x (decide (0 < off)) else x
end Go.Proofs.YtfjiojdnbdfenaaDoor


/- sturm.below. -/
namespace Go.Proofs.YtfjiojdnbdfenaaDoor
open Go Go.RowKit Nv GFl
open Go.Proofs.YtfjiojdnbdfenaaDoorW.PrintWords (Kd print_mid_of)
set_option maxRecDepth 100000
set_option linter.unusedSimpArgs false

theorem f_info : (Tryd.prog.info? 25).map (fun i => (i.zero, i.size, i.bytes)) = some (some (.float .f64 0), 1, 8) := by kernel_rfl
theorem f_info1 : ∃ i, Tryd.prog.info? 25 = some i ∧ i.size = 1 := by
  obtain ⟨i, hi, hz⟩ := Option.map_eq_some_iff.1 f_info
  simp only [Prod.mk.injEq] at hz
  exact ⟨i, hi, hz.2.1⟩
/-- A piece of a list of floats. -/
theorem Fl.mid (A : Option Addr) (c : Nat) (l : List Nat) (a b : Nat) (h1 : a ≤ b) (h2 : b ≤ l.length) (hc : l.length ≤ c) :
    ∃ (A' : Option Addr) (c' : Nat), (∀ W : World, (Instr.slice 22 (.slice A l.length c) (some (.int .i64 (a : Int))) (some (.int .i64 (b : Int))) none).run Tryd.prog W = .ok (.slice A' ((l.take b).drop a).length c') W) ∧
      (∀ w : World, Fl w A l → Fl w A' ((l.take b).drop a)) ∧ ((l.take b).drop a).length ≤ c' := by
  obtain ⟨i, hi, hs⟩ := f_info1
  obtain ⟨A', k1, k2, k3⟩ := print_mid_of (P := Tryd.prog) (Value.float .f64) 0 22 25 .i64 .i64 Tryd.underlying22 hi hs A c l (a : Int) (b : Int) (by omega) (by omega) (by omega) hc
  simp only [Int.toNat_natCast] at k1 k2 k3
  exact ⟨A', c - a, k1, fun w h => Kd.C_of_reads (k2 w (Kd.reads_of_C (d := (0 : Nat)) h)), k3⟩
theorem val_zero {x : Nat} : val x = 0 ↔ plc x = 0 := by
  rw [plc_zero, val_eq']
  have h1 := le_mg B52 (rg x) B52_pos
  have h2 : rg x = 0 → mg B52 (rg x) = 0 := fun h => by rw [h]; exact mg_zero _ B52_pos
  show (if neg x = true then -((mg B52 (rg x) : Nat) : Int) else ((mg B52 (rg x) : Nat) : Int)) = 0 ↔ rg x = 0
  generalize mg B52 (rg x) = m at *
  split <;> omega
theorem Cf.isn {x : Nat} (h : Cf x) : GFl.isn x = false := by rw [isn_eq]; have := h.r; simp; omega
theorem Cf.eq0 {x : Nat} (h : Cf x) : (FloatKind.f64.format.order x 0 == some .eq) = decide (GFl.val x = 0) := by
  rw [Go.Proofs.YtfjiojdnbdfenaaDoor.eq0 h.w, h.isn]
  rw [Bool.eq_iff_iff]
  simp [val_zero]
/-- What holds at the head of below's loop. -/
structure BI (W w : World) (d o : List Nat) (xb : Nat) (X : Int) (k f : Nat) (c : Int) : Prop where
  ix : IntAt w xb X
  below : Below W.heap.size W w
  fk : f ≤ k
  c0 : 0 ≤ c
  c1 : c ≤ f
  tot : c + St.cnt X ((d.map val).drop f) ((o.map val).drop f) = St.cnt X (d.map val) (o.map val)
  nz : ∀ j, f ≤ j → j < k → ∀ h : j < o.length, val o[j] ≠ 0
  en : k = d.length → f = k
theorem BI.skip {W w : World} {d o : List Nat} {xb : Nat} {X : Int} {k f : Nat} {c : Int} (h : BI W w d o xb X k f c) (hl : d.length = o.length + 1) (hko : k < o.length) (hk : ∀ h : k < o.length, val o[k] ≠ 0) : BI W w d o xb X (k + 1) f c :=
  ⟨h.ix, h.below, by have := h.fk; omega, h.c0, h.c1, h.tot, fun j h1 h2 h3 => by
    rcases Nat.lt_or_ge j k with h4 | h4
    · exact h.nz j h1 h4 h3
    · obtain rfl : j = k := by omega
      exact hk h3, fun h => by omega⟩
theorem piece (X : Int) (d o : List Int) (k f : Nat) (hl : d.length = o.length + 1) (hk : k < d.length) (hf : f ≤ k) (hz : ∀ h : k < o.length, o[k] = 0) (hn : ∀ j, f ≤ j → j < k → ∀ h : j < o.length, o[j] ≠ 0) :
    St.prt X ((d.take (k + 1)).drop f) ((o.take k).drop f) + St.cnt X (d.drop (k + 1)) (o.drop (k + 1)) = St.cnt X (d.drop f) (o.drop f) ∧ 0 ≤ St.prt X ((d.take (k + 1)).drop f) ((o.take k).drop f) ∧ St.prt X ((d.take (k + 1)).drop f) ((o.take k).drop f) ≤ k + 1 - f := by
  have e1 : ((d.take (k + 1)).drop f).length = ((o.take k).drop f).length + 1 := by simp; omega
  have e2 : ∀ y ∈ (o.take k).drop f, y ≠ 0 := by
    intro y hy
    obtain ⟨j, hj, rfl⟩ := List.mem_iff_getElem.1 hy
    simp at hj
    have := hn (f + j) (by omega) (by omega) (by omega)
    simpa using this
  rw [St.prt_cnt X _ _ e1 e2]
  have hr := St.cnt_range X ((d.take (k + 1)).drop f) ((o.take k).drop f)
  have hlen : ((d.take (k + 1)).drop f).length = k + 1 - f := by simp; omega
  rw [hlen] at hr
  refine ⟨?_, hr.1, by omega⟩
  have hd : d.drop f = (d.take (k + 1)).drop f ++ d.drop (k + 1) := by
    have := List.take_append_drop (k + 1) d
    conv => lhs; rw [← this]
    rw [List.drop_append_of_le_length (by simp; omega)]
  rcases Nat.lt_or_ge k o.length with h | h
  · have ho : o.drop f = (o.take k).drop f ++ 0 :: o.drop (k + 1) := by
      have h1 := List.take_append_drop k o
      rw [List.drop_eq_getElem_cons h, hz h] at h1
      conv => lhs; rw [← h1]
      rw [List.drop_append_of_le_length (by simp; omega)]
    rw [hd, ho, St.cnt_app X _ _ _ _ e1]
  · have e3 : d.drop (k + 1) = [] := List.drop_of_length_le (by omega)
    have e4 : o.take k = o := List.take_of_length_le h
    have e5 : St.cnt X [] (o.drop (k + 1)) = 0 := rfl
    rw [hd, e3, List.append_nil, e4, e5, Int.add_zero]
theorem BI.cut {W w w' : World} {d o : List Nat} {xb : Nat} {X : Int} {k f : Nat} {c : Int} (h : BI W w d o xb X k f c) (hl : d.length = o.length + 1) (hk : k < d.length) (hz : ∀ h : k < o.length, val o[k] = 0) (hb : Below w.heap.size w w') :
    BI W w' d o xb X (k + 1) (k + 1) (c + St.prt X ((d.map val |>.take (k + 1)).drop f) ((o.map val |>.take k).drop f)) := by
  obtain ⟨p1, p2, p3⟩ := piece X (d.map val) (o.map val) k f (by simpa using hl) (by simpa using hk) h.fk (fun h' => by rw [List.getElem_map]; exact hz (by simpa using h')) (fun j h1 h2 h3 => by rw [List.getElem_map]; exact h.nz j h1 h2 (by simpa using h3))
  refine ⟨h.ix.below hb, bl_then h.below hb, Nat.le_refl _, by have := h.c0; omega, by have := h.c1; omega, ?_, fun j h1 h2 _ => by omega, fun _ => rfl⟩
  have := h.tot
  omega
set_option maxHeartbeats 4000000 in
theorem below_c (A B : Option Addr) (cA cB : Nat) (d o : List Nat) (x : Nat) (W : World) (hd : Fl W A d) (ho : Fl W B o) (hA : d.length ≤ cA) (hB : o.length ≤ cB) (cd : ∀ x ∈ d, Cf x) (co : ∀ x ∈ o, Cf x) (hl : d.length = o.length + 1) (hn : d.length ≤ 64) (hx : W64 x) (hf : rg x < 9218868437227405312) (bx : Bd 1577 (val x)) (hT : Tab W) :
    Calls Tryd.prog 36 #[.agg #[.slice A d.length cA, .slice B o.length cB], .float .f64 x] W fun e w' => e = .returned (.int .i64 (St.cnt (val x) (d.map val) (o.map val))) ∧ Below W.heap.size W w' := by
  have HD := Lib.hid hd
  have HO := Lib.hid ho
  have CD := Lib.hid cd
  have CO := Lib.hid co
  have HL := Lib.hid hl
  have BX := Lib.hid bx
  have HT := Lib.hid hT
  have HX := Lib.hid hx
  have HF := Lib.hid hf
  have HA := Lib.hid hA
  have HB := Lib.hid hB
  clear hd ho cd co hl hx bx hT hf hA hB
  go_enter Tryd.func36, Tryd.ntmps36
  go_wp2_with fail
  have BA := Lib.hid ((Below.refl W.heap.size W).alloc (Nat.le_refl _) (.cells #[.slice A d.length cA, .slice B o.length cB] 24))
  (with_reducible refine (whole_c x HX.out HF.out _ (HT.out.below BA.out)).mono ?_)
  rintro e w1 ⟨xb, rfl, n1, i1, h1⟩
  have hblk : w1.heap[W.heap.size]? = _ := kb_new h1
  have P0 : Hid (BI W w1 d o xb (val x) 0 0 0) := Lib.hid ⟨i1, BA.out.trans (h1.mono (by simp)), Nat.le_refl _, Int.le_refl _, Int.le_refl _, by simp, fun j _ h2 => by omega, fun h => h ▸ rfl⟩
  have HK := Lib.hid hblk
  have cc0 := kb_cell hblk (i := 0) rfl
  have cc1 := kb_cell hblk (i := 1) rfl
  clear n1 i1 h1 hblk
  go_wp2
  go_loopw [5, 6, 14] (fun v5 v6 v14 wr => ∃ (k f : Nat) (c : Int), v5 = .int .i64 c ∧ v6 = .int .i64 f ∧ v14 = .int .i64 k ∧ k ≤ d.length ∧ Hid (BI W wr d o xb (val x) k f c ∧ Below w1.heap.size w1 wr)) (fun _ _ v _ => d.length - (intOf v).toNat)
  case atStart => exact ⟨0, 0, 0, rfl, rfl, rfl, Nat.zero_le _, Lib.hid ⟨P0.out, Below.refl _ _⟩⟩
  case round =>
    obtain ⟨k, f, c, rfl, rfl, rfl, hk, hq⟩ := hrel
    clear P0 cc0 cc1
    by_cases hlt : k < d.length
    · have l1 : decide (k < d.length) = true := decide_eq_true hlt
      have hb2 : wr.heap[W.heap.size]? = _ := kb_keep hq.out.2 HK.out
      have cc0 := kb_cell hb2 (i := 0) rfl
      have cc1 := kb_cell hb2 (i := 1) rfl
      have HK2 := Lib.hid hb2
      have c0 := hq.out.1.c0
      have c1 : c ≤ 64 := by have := hq.out.1.c1; have := hq.out.1.fk; omega
      clear hb2
      rcases Nat.lt_or_ge k o.length with hko | hko
      · obtain ⟨bd, hB0, hc⟩ := HO.out.at hko
        subst hB0
        have hcell2 : wr.cell? (bd.add k) = some (.float .f64 o[k]) := (hq.out.1.below.cell (World.block_lt_of_cell? W _ hc)).trans hc
        have t0 := (CO.out _ (List.getElem_mem hko)).eq0
        have l2 : ((k : Int) == (o.length : Int)) = false := by rw [beq_eq_false_iff_ne]; omega
        have l3 : (k == o.length) = false := by rw [beq_eq_false_iff_ne]; omega
        clear hc
        by_cases hz : val o[k] = 0
        · rw [decide_eq_true hz] at t0
          have HZ : Hid (∀ h : k < o.length, val o[k] = 0) := Lib.hid (fun _ => hz)
          clear hz
          obtain ⟨A1, e1, s1, f1, g1⟩ := Fl.mid A cA d f (k + 1) (by have := hq.out.1.fk; omega) (by omega) HA.out
          obtain ⟨B1, e2, s2, f2, g2⟩ := Fl.mid (some bd) cB o f k hq.out.1.fk (by have := HL.out; omega) HB.out
          rw [show ((k + 1 : Nat) : Int) = (k : Int) + 1 from rfl] at s1
          have F1 := Lib.hid (f1 _ (HD.out.below hq.out.1.below))
          have F2 := Lib.hid (f2 _ (HO.out.below hq.out.1.below))
          have pc := part_c A1 B1 e1 e2 ((d.take (k + 1)).drop f) ((o.take k).drop f) xb (val x) wr.drew F1.out F2.out (fun y hy => CD.out y (List.mem_of_mem_take (List.mem_of_mem_drop hy))) (fun y hy => CO.out y (List.mem_of_mem_take (List.mem_of_mem_drop hy))) (by have := HL.out; simp; have := hq.out.1.fk; omega) (by simp; omega) (hq.out.1.ix.below (dr_below _)) BX.out (HT.out.below (bl_then hq.out.1.below (dr_below _)))
          obtain ⟨P, hP⟩ : ∃ P, St.prt (val x) (((d.take (k + 1)).drop f).map val) (((o.take k).drop f).map val) = P := ⟨_, rfl⟩
          rw [hP] at pc
          obtain ⟨m1, hm1⟩ : ∃ m, ((d.take (k + 1)).drop f).length = m := ⟨_, rfl⟩
          obtain ⟨m2, hm2⟩ : ∃ m, ((o.take k).drop f).length = m := ⟨_, rfl⟩
          rw [hm1, hm2] at pc
          rw [hm1] at s1
          rw [hm2] at s2
          have PC := Lib.hid pc
          clear hm1 hm2 g1 g2
          have bi : ∀ w', Below wr.heap.size wr w' → BI W w' d o xb (val x) (k + 1) (k + 1) (c + P) := fun w' h => by
            have := hq.out.1.cut HL.out hlt HZ.out h
            rw [← List.map_take, ← List.map_drop, ← List.map_take, ← List.map_drop, hP] at this
            exact this
          have p2 : 0 ≤ P ∧ P ≤ 64 := by
            have h1 := piece (val x) (d.map val) (o.map val) k f (by simpa using HL.out) (by simpa using hlt) hq.out.1.fk (fun h' => by rw [List.getElem_map]; exact HZ.out (by simpa using h')) (fun j h1 h2 h3 => by rw [List.getElem_map]; exact hq.out.1.nz j h1 h2 (by simpa using h3))
            rw [← List.map_take, ← List.map_drop, ← List.map_take, ← List.map_drop, hP] at h1
            omega
          obtain ⟨p3, p4⟩ := p2
          have BIF := Lib.hid bi
          have hw1 : IntKind.i64.wrap ((k : Int) + 1) = (k : Int) + 1 := by rw [IntKind.wrap_i64]; omega
          have hw2 : IntKind.i64.wrap (c + P) = c + P := by rw [IntKind.wrap_i64]; omega
          clear pc bi hP f1 f2
          go_wp2
          have hS : wr.drew.cell? ⟨W.heap.size, 0, none⟩ = some (.slice A d.length cA) ∧ wr.drew.cell? ⟨W.heap.size, 1, none⟩ = some (.slice (some bd) o.length cB) := ⟨cc0, cc1⟩
          refine wp_region_G (g := 13) (S := fun w' => w'.cell? ⟨W.heap.size, 0, none⟩ = some (.slice A d.length cA) ∧ w'.cell? ⟨W.heap.size, 1, none⟩ = some (.slice (some bd) o.length cB)) (by kernel_rfl) ?_
          (refine wpG_take (i := 0) (v := ?_) rfl rfl (by kernel_rfl) (by kernel_rfl) (by kernel_rfl) (fun _ _ _ h => h) (Or.inl ⟨by rfl, fun w => ?_⟩) (Or.inr hS) ?_; rotate_left; focus (go_simp; first | done | with_reducible rfl | exact rfl)); (try simp only [Act.put, List.setIfInBounds_toArray, List.set_cons_zero, List.set_cons_succ]); (refine wpG_take (i := 1) (v := ?_) rfl rfl (by kernel_rfl) (by kernel_rfl) (by kernel_rfl) (fun _ _ _ h => h) (Or.inl ⟨by rfl, fun w => ?_⟩) (Or.inr hS) ?_; rotate_left; focus (go_simp; first | done | with_reducible rfl | exact rfl)); (try simp only [Act.put, List.setIfInBounds_toArray, List.set_cons_zero, List.set_cons_succ])
          (refine wpG_ld (i := 2) 6 (v := ?_) rfl rfl (by kernel_rfl) (by kernel_rfl) (by kernel_rfl) (by kernel_rfl) (fun _ _ _ h => h) (Or.inl ⟨by rfl, ?_⟩) hS ?_; rotate_left; focus (intro w hSw; (try dsimp only at hSw); go_simp; first | done | with_reducible rfl | exact rfl)); (try simp only [Act.put, List.setIfInBounds_toArray, List.set_cons_zero, List.set_cons_succ])
          (refine wpG_take (i := 3) (v := ?_) rfl rfl (by kernel_rfl) (by kernel_rfl) (by kernel_rfl) (fun _ _ _ h => h) (Or.inl ⟨by rfl, fun w => ?_⟩) (Or.inr hS) ?_; rotate_left; focus (go_simp; first | done | with_reducible rfl | exact rfl)); (try simp only [Act.put, List.setIfInBounds_toArray, List.set_cons_zero, List.set_cons_succ]); (refine wpG_take (i := 4) (v := ?_) rfl rfl (by kernel_rfl) (by kernel_rfl) (by kernel_rfl) (fun _ _ _ h => h) (Or.inl ⟨by rfl, fun w => ?_⟩) (Or.inr hS) ?_; rotate_left; focus (go_simp; first | done | with_reducible rfl | exact rfl)); (try simp only [Act.put, List.setIfInBounds_toArray, List.set_cons_zero, List.set_cons_succ]); (refine wpG_take (i := 5) (v := ?_) rfl rfl (by kernel_rfl) (by kernel_rfl) (by kernel_rfl) (fun _ _ _ h => h) (Or.inl ⟨by rfl, fun w => ?_⟩) (Or.inr hS) ?_; rotate_left; focus (go_simp; first | done | with_reducible rfl | exact rfl)); (try simp only [Act.put, List.setIfInBounds_toArray, List.set_cons_zero, List.set_cons_succ]); (refine wpG_take (i := 6) (v := ?_) rfl rfl (by kernel_rfl) (by kernel_rfl) (by kernel_rfl) (fun _ _ _ h => h) (Or.inl ⟨by rfl, fun w => ?_⟩) (Or.inr hS) ?_; rotate_left; focus (go_simp; first | done | with_reducible rfl | exact rfl)); (try simp only [Act.put, List.setIfInBounds_toArray, List.set_cons_zero, List.set_cons_succ]); (refine wpG_take (i := 7) (v := ?_) rfl rfl (by kernel_rfl) (by kernel_rfl) (by kernel_rfl) (fun _ _ _ h => h) (Or.inl ⟨by rfl, fun w => ?_⟩) (Or.inr hS) ?_; rotate_left; focus (go_simp; first | done | with_reducible rfl | exact rfl)); (try simp only [Act.put, List.setIfInBounds_toArray, List.set_cons_zero, List.set_cons_succ])
          (refine wpG_ld (i := 8) 11 (v := ?_) rfl rfl (by kernel_rfl) (by kernel_rfl) (by kernel_rfl) (by kernel_rfl) (fun _ _ _ h => h) (Or.inl ⟨by rfl, ?_⟩) hS ?_; rotate_left; focus (intro w hSw; (try dsimp only at hSw); go_simp; first | done | with_reducible rfl | exact rfl)); (try simp only [Act.put, List.setIfInBounds_toArray, List.set_cons_zero, List.set_cons_succ])
          (refine wpG_take (i := 9) (v := ?_) rfl rfl (by kernel_rfl) (by kernel_rfl) (by kernel_rfl) (fun _ _ _ h => h) (Or.inl ⟨by rfl, fun w => ?_⟩) (Or.inr hS) ?_; rotate_left; focus (go_simp; first | done | with_reducible rfl | exact rfl)); (try simp only [Act.put, List.setIfInBounds_toArray, List.set_cons_zero, List.set_cons_succ]); (refine wpG_take (i := 10) (v := ?_) rfl rfl (by kernel_rfl) (by kernel_rfl) (by kernel_rfl) (fun _ _ _ h => h) (Or.inl ⟨by rfl, fun w => ?_⟩) (Or.inr hS) ?_; rotate_left; focus (go_simp; first | done | with_reducible rfl | exact rfl)); (try simp only [Act.put, List.setIfInBounds_toArray, List.set_cons_zero, List.set_cons_succ]); (refine wpG_take (i := 11) (v := ?_) rfl rfl (by kernel_rfl) (by kernel_rfl) (by kernel_rfl) (fun _ _ _ h => h) (Or.inl ⟨by rfl, fun w => ?_⟩) (Or.inr hS) ?_; rotate_left; focus (go_simp; first | done | with_reducible rfl | exact rfl)); (try simp only [Act.put, List.setIfInBounds_toArray, List.set_cons_zero, List.set_cons_succ]); (refine wpG_take (i := 12) (v := ?_) rfl rfl (by kernel_rfl) (by kernel_rfl) (by kernel_rfl) (fun _ _ _ h => h) (Or.inl ⟨by rfl, fun w => ?_⟩) (Or.inr hS) ?_; rotate_left; focus (go_simp; first | done | with_reducible rfl | exact rfl)); (try simp only [Act.put, List.setIfInBounds_toArray, List.set_cons_zero, List.set_cons_succ])
          refine wpG_one (i := 13) (by kernel_rfl) rfl (fun K hK => ?_); have HK := Lib.hid hK; clear hK
          go_simp
          (with_reducible refine (PC.out).mono ?_)
          rintro e w2 ⟨rfl, hb⟩
          have HB2 := Lib.hid ((dr_below wr).trans hb)
          refine HK.out _ _ (Or.inl (by kernel_rfl)) ?_
          clear hb HK K hS
          (try simp only [Act.put, List.setIfInBounds_toArray, List.set_cons_zero, List.set_cons_succ])
          (refine wpG_take (i := 14) (v := ?_) rfl rfl (by kernel_rfl) (by kernel_rfl) (by kernel_rfl) (fun _ _ _ h => h) (Or.inl ⟨by rfl, fun w => ?_⟩) (Or.inl (by kernel_rfl)) ?_; rotate_left; focus (go_simp; first | done | with_reducible rfl | exact rfl)); (try simp only [Act.put, List.setIfInBounds_toArray, List.set_cons_zero, List.set_cons_succ])
          refine wpG_one (i := 15) (by kernel_rfl) rfl (fun K hK => ?_); have HK := Lib.hid hK; clear hK; go_simp; refine HK.out _ _ (Or.inl (by kernel_rfl)) ?_; clear HK K; (try simp only [Act.put, List.setIfInBounds_toArray, List.set_cons_zero, List.set_cons_succ])
          refine wpG_done (by kernel_rfl) ?_ _
          go_wp2
          go_roundw
          case rel => exact ⟨k + 1, k + 1, c + P, rfl, by go_num, by go_num, by omega, Lib.hid ⟨BIF.out _ HB2.out, bl_then hq.out.2 HB2.out⟩⟩
          case measure => simp [intOf]; omega
        · rw [decide_eq_false hz] at t0
          have BS := Lib.hid (hq.out.1.skip HL.out hko (fun _ => hz))
          clear hz
          go_wp2
          go_roundw
          case rel => exact ⟨k + 1, f, c, rfl, rfl, by go_num, by omega, Lib.hid ⟨BS.out, hq.out.2⟩⟩
          case measure => simp [intOf]; omega
      · have l2 : ((k : Int) == (o.length : Int)) = true := by rw [beq_iff_eq]; have := HL.out; omega
        have l3 : (k == o.length) = true := by rw [beq_iff_eq]; have := HL.out; omega
        have HZ : Hid (∀ h : k < o.length, val o[k] = 0) := Lib.hid (fun h => absurd h (by omega))
        obtain ⟨A1, e1, s1, f1, g1⟩ := Fl.mid A cA d f (k + 1) (by have := hq.out.1.fk; omega) (by omega) HA.out
        obtain ⟨B1, e2, s2, f2, g2⟩ := Fl.mid B cB o f k hq.out.1.fk (by have := HL.out; omega) HB.out
        rw [show ((k + 1 : Nat) : Int) = (k : Int) + 1 from rfl] at s1
        have F1 := Lib.hid (f1 _ (HD.out.below hq.out.1.below))
        have F2 := Lib.hid (f2 _ (HO.out.below hq.out.1.below))
        have pc := part_c A1 B1 e1 e2 ((d.take (k + 1)).drop f) ((o.take k).drop f) xb (val x) wr.drew F1.out F2.out (fun y hy => CD.out y (List.mem_of_mem_take (List.mem_of_mem_drop hy))) (fun y hy => CO.out y (List.mem_of_mem_take (List.mem_of_mem_drop hy))) (by have := HL.out; simp; have := hq.out.1.fk; omega) (by simp; omega) (hq.out.1.ix.below (dr_below _)) BX.out (HT.out.below (bl_then hq.out.1.below (dr_below _)))
        obtain ⟨P, hP⟩ : ∃ P, St.prt (val x) (((d.take (k + 1)).drop f).map val) (((o.take k).drop f).map val) = P := ⟨_, rfl⟩
        rw [hP] at pc
        obtain ⟨m1, hm1⟩ : ∃ m, ((d.take (k + 1)).drop f).length = m := ⟨_, rfl⟩
        obtain ⟨m2, hm2⟩ : ∃ m, ((o.take k).drop f).length = m := ⟨_, rfl⟩
        rw [hm1, hm2] at pc
        rw [hm1] at s1
        rw [hm2] at s2
        have PC := Lib.hid pc
        clear hm1 hm2 g1 g2
        have bi : ∀ w', Below wr.heap.size wr w' → BI W w' d o xb (val x) (k + 1) (k + 1) (c + P) := fun w' h => by
          have := hq.out.1.cut HL.out hlt HZ.out h
          rw [← List.map_take, ← List.map_drop, ← List.map_take, ← List.map_drop, hP] at this
          exact this
        have p2 : 0 ≤ P ∧ P ≤ 64 := by
          have h1 := piece (val x) (d.map val) (o.map val) k f (by simpa using HL.out) (by simpa using hlt) hq.out.1.fk (fun h' => by rw [List.getElem_map]; exact HZ.out (by simpa using h')) (fun j h1 h2 h3 => by rw [List.getElem_map]; exact hq.out.1.nz j h1 h2 (by simpa using h3))
          rw [← List.map_take, ← List.map_drop, ← List.map_take, ← List.map_drop, hP] at h1
          omega
        obtain ⟨p3, p4⟩ := p2
        have BIF := Lib.hid bi
        have hw1 : IntKind.i64.wrap ((k : Int) + 1) = (k : Int) + 1 := by rw [IntKind.wrap_i64]; omega
        have hw2 : IntKind.i64.wrap (c + P) = c + P := by rw [IntKind.wrap_i64]; omega
        clear pc bi hP f1 f2
        go_wp2
        have hS : wr.drew.cell? ⟨W.heap.size, 0, none⟩ = some (.slice A d.length cA) ∧ wr.drew.cell? ⟨W.heap.size, 1, none⟩ = some (.slice B o.length cB) := ⟨cc0, cc1⟩
        refine wp_region_G (g := 13) (S := fun w' => w'.cell? ⟨W.heap.size, 0, none⟩ = some (.slice A d.length cA) ∧ w'.cell? ⟨W.heap.size, 1, none⟩ = some (.slice B o.length cB)) (by kernel_rfl) ?_
        (refine wpG_take (i := 0) (v := ?_) rfl rfl (by kernel_rfl) (by kernel_rfl) (by kernel_rfl) (fun _ _ _ h => h) (Or.inl ⟨by rfl, fun w => ?_⟩) (Or.inr hS) ?_; rotate_left; focus (go_simp; first | done | with_reducible rfl | exact rfl)); (try simp only [Act.put, List.setIfInBounds_toArray, List.set_cons_zero, List.set_cons_succ]); (refine wpG_take (i := 1) (v := ?_) rfl rfl (by kernel_rfl) (by kernel_rfl) (by kernel_rfl) (fun _ _ _ h => h) (Or.inl ⟨by rfl, fun w => ?_⟩) (Or.inr hS) ?_; rotate_left; focus (go_simp; first | done | with_reducible rfl | exact rfl)); (try simp only [Act.put, List.setIfInBounds_toArray, List.set_cons_zero, List.set_cons_succ])
        (refine wpG_ld (i := 2) 6 (v := ?_) rfl rfl (by kernel_rfl) (by kernel_rfl) (by kernel_rfl) (by kernel_rfl) (fun _ _ _ h => h) (Or.inl ⟨by rfl, ?_⟩) hS ?_; rotate_left; focus (intro w hSw; (try dsimp only at hSw); go_simp; first | done | with_reducible rfl | exact rfl)); (try simp only [Act.put, List.setIfInBounds_toArray, List.set_cons_zero, List.set_cons_succ])
        (refine wpG_take (i := 3) (v := ?_) rfl rfl (by kernel_rfl) (by kernel_rfl) (by kernel_rfl) (fun _ _ _ h => h) (Or.inl ⟨by rfl, fun w => ?_⟩) (Or.inr hS) ?_; rotate_left; focus (go_simp; first | done | with_reducible rfl | exact rfl)); (try simp only [Act.put, List.setIfInBounds_toArray, List.set_cons_zero, List.set_cons_succ]); (refine wpG_take (i := 4) (v := ?_) rfl rfl (by kernel_rfl) (by kernel_rfl) (by kernel_rfl) (fun _ _ _ h => h) (Or.inl ⟨by rfl, fun w => ?_⟩) (Or.inr hS) ?_; rotate_left; focus (go_simp; first | done | with_reducible rfl | exact rfl)); (try simp only [Act.put, List.setIfInBounds_toArray, List.set_cons_zero, List.set_cons_succ]); (refine wpG_take (i := 5) (v := ?_) rfl rfl (by kernel_rfl) (by kernel_rfl) (by kernel_rfl) (fun _ _ _ h => h) (Or.inl ⟨by rfl, fun w => ?_⟩) (Or.inr hS) ?_; rotate_left; focus (go_simp; first | done | with_reducible rfl | exact rfl)); (try simp only [Act.put, List.setIfInBounds_toArray, List.set_cons_zero, List.set_cons_succ]); (refine wpG_take (i := 6) (v := ?_) rfl rfl (by kernel_rfl) (by kernel_rfl) (by kernel_rfl) (fun _ _ _ h => h) (Or.inl ⟨by rfl, fun w => ?_⟩) (Or.inr hS) ?_; rotate_left; focus (go_simp; first | done | with_reducible rfl | exact rfl)); (try simp only [Act.put, List.setIfInBounds_toArray, List.set_cons_zero, List.set_cons_succ]); (refine wpG_take (i := 7) (v := ?_) rfl rfl (by kernel_rfl) (by kernel_rfl) (by kernel_rfl) (fun _ _ _ h => h) (Or.inl ⟨by rfl, fun w => ?_⟩) (Or.inr hS) ?_; rotate_left; focus (go_simp; first | done | with_reducible rfl | exact rfl)); (try simp only [Act.put, List.setIfInBounds_toArray, List.set_cons_zero, List.set_cons_succ])
        (refine wpG_ld (i := 8) 11 (v := ?_) rfl rfl (by kernel_rfl) (by kernel_rfl) (by kernel_rfl) (by kernel_rfl) (fun _ _ _ h => h) (Or.inl ⟨by rfl, ?_⟩) hS ?_; rotate_left; focus (intro w hSw; (try dsimp only at hSw); go_simp; first | done | with_reducible rfl | exact rfl)); (try simp only [Act.put, List.setIfInBounds_toArray, List.set_cons_zero, List.set_cons_succ])
        (refine wpG_take (i := 9) (v := ?_) rfl rfl (by kernel_rfl) (by kernel_rfl) (by kernel_rfl) (fun _ _ _ h => h) (Or.inl ⟨by rfl, fun w => ?_⟩) (Or.inr hS) ?_; rotate_left; focus (go_simp; first | done | with_reducible rfl | exact rfl)); (try simp only [Act.put, List.setIfInBounds_toArray, List.set_cons_zero, List.set_cons_succ]); (refine wpG_take (i := 10) (v := ?_) rfl rfl (by kernel_rfl) (by kernel_rfl) (by kernel_rfl) (fun _ _ _ h => h) (Or.inl ⟨by rfl, fun w => ?_⟩) (Or.inr hS) ?_; rotate_left; focus (go_simp; first | done | with_reducible rfl | exact rfl)); (try simp only [Act.put, List.setIfInBounds_toArray, List.set_cons_zero, List.set_cons_succ]); (refine wpG_take (i := 11) (v := ?_) rfl rfl (by kernel_rfl) (by kernel_rfl) (by kernel_rfl) (fun _ _ _ h => h) (Or.inl ⟨by rfl, fun w => ?_⟩) (Or.inr hS) ?_; rotate_left; focus (go_simp; first | done | with_reducible rfl | exact rfl)); (try simp only [Act.put, List.setIfInBounds_toArray, List.set_cons_zero, List.set_cons_succ]); (refine wpG_take (i := 12) (v := ?_) rfl rfl (by kernel_rfl) (by kernel_rfl) (by kernel_rfl) (fun _ _ _ h => h) (Or.inl ⟨by rfl, fun w => ?_⟩) (Or.inr hS) ?_; rotate_left; focus (go_simp; first | done | with_reducible rfl | exact rfl)); (try simp only [Act.put, List.setIfInBounds_toArray, List.set_cons_zero, List.set_cons_succ])
        refine wpG_one (i := 13) (by kernel_rfl) rfl (fun K hK => ?_); have HK := Lib.hid hK; clear hK
        go_simp
        (with_reducible refine (PC.out).mono ?_)
        rintro e w2 ⟨rfl, hb⟩
        have HB2 := Lib.hid ((dr_below wr).trans hb)
        refine HK.out _ _ (Or.inl (by kernel_rfl)) ?_
        clear hb HK K hS
        (try simp only [Act.put, List.setIfInBounds_toArray, List.set_cons_zero, List.set_cons_succ])
        (refine wpG_take (i := 14) (v := ?_) rfl rfl (by kernel_rfl) (by kernel_rfl) (by kernel_rfl) (fun _ _ _ h => h) (Or.inl ⟨by rfl, fun w => ?_⟩) (Or.inl (by kernel_rfl)) ?_; rotate_left; focus (go_simp; first | done | with_reducible rfl | exact rfl)); (try simp only [Act.put, List.setIfInBounds_toArray, List.set_cons_zero, List.set_cons_succ])
        refine wpG_one (i := 15) (by kernel_rfl) rfl (fun K hK => ?_); have HK := Lib.hid hK; clear hK; go_simp; refine HK.out _ _ (Or.inl (by kernel_rfl)) ?_; clear HK K; (try simp only [Act.put, List.setIfInBounds_toArray, List.set_cons_zero, List.set_cons_succ])
        refine wpG_done (by kernel_rfl) ?_ _
        go_wp2
        go_roundw
        case rel => exact ⟨k + 1, k + 1, c + P, rfl, by go_num, by go_num, by omega, Lib.hid ⟨BIF.out _ HB2.out, bl_then hq.out.2 HB2.out⟩⟩
        case measure => simp [intOf]; omega
    · have l1 : decide (k < d.length) = false := decide_eq_false hlt
      have fin : c = St.cnt (val x) (d.map val) (o.map val) := by
        have h1 := hq.out.1.tot
        have h2 := hq.out.1.en (by omega)
        rw [List.drop_of_length_le (l := d.map val) (by simp; omega)] at h1
        rw [← h1, show St.cnt (val x) [] ((o.map val).drop f) = 0 from rfl, Int.add_zero]
      have FIN := Lib.hid fin
      have BL := Lib.hid hq.out.1.below
      clear fin hq
      go_wp2
      go_ret
      exact ⟨ret_int FIN.out, BL.out⟩
end Go.Proofs.YtfjiojdnbdfenaaDoor


/- Plain laws: which parts are a float's, and of which. No program. -/
namespace GFl
open Ieee

/-- Are these the parts of a finite float? -/
def joinOk (fr : Nat) (ex : Int) : Prop := fr = 0 ∧ ex = 0 ∨ fr % 2 = 1 ∧ fr < 9007199254740992 ∧ -1074 ≤ ex ∧ fr * p2 (ex + 1074).toNat < p2 2098
/-- Of that float. -/
structure IsJoin (ng : Bool) (fr : Nat) (ex : Int) (z : Nat) : Prop where
  w : W64 z
  s : neg z = ng
  f : rg z < 9218868437227405312
  m : mg B52 (rg z) = fr * p2 (ex + 1074).toNat
theorem IsJoin.unique {ng : Bool} {fr : Nat} {ex : Int} {y z : Nat} (h : IsJoin ng fr ex y) (h' : IsJoin ng fr ex z) : y = z :=
  w64_ext h.w h'.w (h.s.trans h'.s.symm) (mg_inj B52_pos (h.m.trans h'.m.symm))

theorem p2_lt {a b : Nat} (h : p2 a < p2 b) : a < b := by
  rcases Nat.lt_or_ge a b with h1 | h1
  · exact h1
  · have := p2_le h1; omega
theorem p2_lt' {a b : Nat} (h : a < b) : p2 a < p2 b := by
  have h1 : p2 (a + 1) ≤ p2 b := p2_le h
  rw [p2_add] at h1
  have h2 : p2 1 = 2 := by decide +kernel
  have := p2_pos a
  rw [h2] at h1; omega

/-- The bits of a number: below 2^n, not below 2^(n - 1). -/
structure Len (fr n : Nat) : Prop where
  pos : 1 ≤ n
  lo : p2 (n - 1) ≤ fr
  hi : fr < p2 n
theorem Len.le53 {fr n : Nat} (h : Len fr n) : n ≤ 53 ↔ fr < 9007199254740992 := by
  have e : p2 53 = 9007199254740992 := by decide +kernel
  rw [← e]
  constructor
  · intro h1; exact Nat.lt_of_lt_of_le h.hi (p2_le h1)
  · intro h1
    have := p2_lt (Nat.lt_of_le_of_lt h.lo h1)
    omega
theorem Len.fits {fr n : Nat} {ex : Int} (h : Len fr n) (he : -1074 ≤ ex) : fr * p2 (ex + 1074).toNat < p2 2098 ↔ ex + n ≤ 1024 := by
  have hp := h.pos
  constructor
  · intro h1
    have h2 : p2 (n - 1) * p2 (ex + 1074).toNat ≤ fr * p2 (ex + 1074).toNat := Nat.mul_le_mul_right _ h.lo
    rw [← p2_add] at h2
    have := p2_lt (Nat.lt_of_le_of_lt h2 h1)
    omega
  · intro h1
    have h2 : fr * p2 (ex + 1074).toNat < p2 n * p2 (ex + 1074).toNat := Nat.mul_lt_mul_of_pos_right h.hi (p2_pos _)
    rw [← p2_add] at h2
    exact Nat.lt_of_lt_of_le h2 (p2_le (by omega))
theorem joinOk_odd {fr n : Nat} {ex : Int} (h : Len fr n) (ho : fr % 2 = 1) : joinOk fr ex ↔ n ≤ 53 ∧ -1074 ≤ ex ∧ ex + n ≤ 1024 := by
  unfold joinOk
  have h1 := h.le53
  constructor
  · rintro (⟨h2, _⟩ | ⟨_, h2, h3, h4⟩)
    · omega
    · exact ⟨h1.2 h2, h3, (h.fits h3).1 h4⟩
  · rintro ⟨h2, h3, h4⟩
    exact .inr ⟨ho, h1.1 h2, h3, (h.fits h3).2 h4⟩
theorem joinOk_even {fr : Nat} {ex : Int} (h0 : fr ≠ 0) (h : fr % 2 = 0) : ¬ joinOk fr ex := by
  unfold joinOk; omega
theorem joinOk_zero {ex : Int} : joinOk 0 ex ↔ ex = 0 := by
  unfold joinOk; omega

/-- A number of at most 53 digits as a word, scaled. -/
theorem isJoin_ld {c fr : Nat} {ex : Int} {z : Nat} (hc : mg B52 (rg c) = fr * p2 1074) (hn : neg c = false) (hf : fr < 9007199254740992) (he : -1074 ≤ ex) (hlt : fr * p2 (ex + 1074).toNat < p2 2098) (h : IsLd c ex z) : IsJoin false fr ex z := by
  obtain ⟨r, hr, e⟩ := h
  rw [hc] at hr
  obtain ⟨q, hq⟩ := rep (B := B52) fr (ex + 1074).toNat (by unfold B52; omega)
  have hrq : r = q := by
    refine rn_exact B52_pos (p2_pos _) hr ?_
    rw [hq, Nat.mul_assoc, Nat.mul_assoc, ← p2_add, ← p2_add]
    congr 2; omega
  have hhi : q < 9218868437227405312 := by
    rw [← mg_lt_iff (B := B52) B52_pos, hq, mgINF]
    have h2 : B52 * p2 2046 = p2 2098 := by rw [show B52 = p2 52 from by decide +kernel, ← p2_add]
    rw [h2]; exact hlt
  have hq63 : q < 9223372036854775808 := by omega
  rw [hrq, hn, Nat.min_eq_left (Nat.le_of_lt hhi)] at e
  rw [e]
  exact ⟨wd_w hq63, wd_neg hq63, by rw [wd_rg hq63]; exact hhi, by rw [wd_rg hq63]; exact hq⟩
theorem isJoin_neg {fr : Nat} {ex : Int} {z : Nat} (h : IsJoin false fr ex z) : IsJoin true fr ex (wd true (rg z)) := by
  have hl := rg_lt z
  exact ⟨wd_w hl, wd_neg hl, by rw [wd_rg hl]; exact h.f, by rw [wd_rg hl]; exact h.m⟩

/-- A whole number of at most 53 digits as a float. -/
theorem ofNat64 {n : Nat} (h : n < 9007199254740992) : ∃ z, double.write (.number false n 0) = z ∧ W64 z ∧ neg z = false ∧ rg z < 9218868437227405312 ∧ mg B52 (rg z) = n * p2 1074 := by
  obtain ⟨r, hr, e⟩ := nearest_rn good_double false n 0
  obtain ⟨q, hq⟩ := rep (B := B52) n 1074 (by unfold B52; omega)
  have e1 : ((0 : Int) - double.leastPlace).toNat = 1074 := by decide
  have e2 : (double.leastPlace - 0).toNat = 0 := by decide
  rw [d_b, ← p2_def, ← p2_def, e1, e2, p2_zero] at hr
  have hrq : r = q := rn_exact B52_pos Nat.one_pos hr (by rw [hq, Nat.mul_one])
  have hhi : q < 9218868437227405312 := by
    rw [← mg_lt_iff (B := B52) B52_pos, hq, mgINF]
    have h2 : B52 * p2 2046 = p2 2098 := by rw [show B52 = p2 52 from by decide +kernel, ← p2_add]
    have h3 : (9007199254740992 : Nat) = p2 53 := by decide +kernel
    rw [h2]
    refine Nat.lt_of_lt_of_le (Nat.mul_lt_mul_of_pos_right (h3 ▸ h) (p2_pos _)) ?_
    rw [← p2_add]; exact p2_le (by decide)
  have hq63 : q < 9223372036854775808 := by omega
  refine ⟨wd false q, ?_, wd_w hq63, wd_neg hq63, by rw [wd_rg hq63]; exact hhi, by rw [wd_rg hq63]; exact hq⟩
  show double.nearest false n 0 = _
  rw [e, hrq, d_inf, Nat.min_eq_left (Nat.le_of_lt hhi)]; rfl
end GFl


/- The quotient of two finite words, as the model rounds it. -/
namespace GFl
open Ieee Ieee.Format
section
variable {f : Format}

theorem sticky_le {D n c : Nat} (hn : 0 < n) : 2 * (D / n) + (D % n != 0).toNat ≤ 2 * c ↔ D ≤ c * n := by
  have h1 := Nat.div_add_mod D n
  have h2 := Nat.mod_lt D hn
  rcases Nat.eq_zero_or_pos (D % n) with h0 | h0
  · rw [h0] at h1 ⊢
    simp only [bne_self_eq_false, Bool.toNat_false, Nat.add_zero] at h1 ⊢
    rw [← h1, Nat.mul_comm n]
    constructor
    · intro h; rw [Nat.mul_div_cancel _ hn] at h; exact Nat.mul_le_mul_right _ (by omega)
    · intro h; have := Nat.le_of_mul_le_mul_right h hn; rw [Nat.mul_div_cancel _ hn]; omega
  · have e : (D % n != 0) = true := by simp; omega
    rw [e]
    simp only [Bool.toNat_true]
    constructor
    · intro h
      have : (D / n + 1) * n ≤ c * n := Nat.mul_le_mul_right _ (by omega)
      rw [Nat.add_mul, Nat.mul_comm (D / n)] at this; omega
    · intro h
      by_cases hc : D / n + 1 ≤ c
      · omega
      · have : c * n ≤ (D / n) * n := Nat.mul_le_mul_right _ (by omega)
        rw [Nat.mul_comm (D / n)] at this; omega
theorem sticky_ge {D n c : Nat} (hn : 0 < n) : 2 * c ≤ 2 * (D / n) + (D % n != 0).toNat ↔ c * n ≤ D := by
  rw [← Nat.le_div_iff_mul_le hn]
  have : (D % n != 0).toNat ≤ 1 := by cases (D % n != 0) <;> simp
  omega

/-- The middle of two neighbours: an odd number below 4 B, times a power of two. -/
theorem mid_form {B : Nat} (hB : 0 < B) (k : Nat) : ∃ u e, mg B k + mg B (k + 1) = u * 2 ^ e ∧ u < 4 * B := by
  rw [mg_succ _ _ hB]
  by_cases h : k < B
  · rw [mg_small h, ulp_small h]
    exact ⟨2 * k + 1, 0, by simp; omega, by omega⟩
  · have hk := Nat.div_add_mod k B
    have hm := Nat.mod_lt k hB
    have hd : 1 ≤ k / B := (Nat.one_le_div_iff hB).2 (by omega)
    have e : k = (k / B - 1 + 1) * B + k % B := by rw [Nat.sub_add_cancel hd, Nat.mul_comm]; exact hk.symm
    rw [e, mg_eq _ _ _ hm, ulp_eq _ _ _ hm]
    refine ⟨2 * (B + k % B) + 1, k / B - 1, ?_, by omega⟩
    generalize B + k % B = b
    rw [Nat.add_mul, Nat.mul_assoc, Nat.one_mul]; omega

theorem mid_dich {B q : Nat} (hB : 0 < B) (hq : 2 * B ≤ q) (a b k : Nat) : (∃ c, (mg B k + mg B (k + 1)) * 2 ^ b = 4 * 2 ^ a * c) ∨ (mg B k + mg B (k + 1)) * 2 ^ b < 4 * 2 ^ a * q := by
  obtain ⟨u, e, h, hu⟩ := mid_form hB k
  rw [h, Nat.mul_assoc, ← Nat.pow_add]
  by_cases hc : a + 2 ≤ e + b
  · refine .inl ⟨u * 2 ^ (e + b - (a + 2)), ?_⟩
    have : 4 * 2 ^ a = 2 ^ (a + 2) := by rw [Nat.pow_add, Nat.mul_comm]
    rw [this, Nat.mul_left_comm, ← Nat.pow_add]
    congr 2; omega
  · refine .inr ?_
    have h1 : 2 ^ (e + b) ≤ 2 ^ (a + 1) := Nat.pow_le_pow_right (by decide) (by omega)
    rw [Nat.pow_succ] at h1
    have h2 : u * 2 ^ (e + b) ≤ u * (2 ^ a * 2) := Nat.mul_le_mul_left _ h1
    have h3 : u * (2 ^ a * 2) < 4 * B * (2 ^ a * 2) := Nat.mul_lt_mul_of_pos_right hu (by have := Nat.two_pow_pos a; omega)
    have h4 : 4 * 2 ^ a * (2 * B) ≤ 4 * 2 ^ a * q := Nat.mul_le_mul_left _ hq
    have h5 : 4 * B * (2 ^ a * 2) = 4 * 2 ^ a * (2 * B) := by rw [Nat.mul_assoc 4 B, Nat.mul_assoc 4 (2 ^ a), Nat.mul_left_comm B, Nat.mul_comm B 2]
    omega

theorem sticky_mid {B D n : Nat} (hB : 0 < B) (hn : 0 < n) (hq : 2 * B ≤ D / n) (a b k : Nat) :
    (2 * ((2 * (D / n) + (D % n != 0).toNat) * 2 ^ a) ≤ (mg B k + mg B (k + 1)) * 2 ^ b ↔ 2 * (2 * D * 2 ^ a) ≤ (mg B k + mg B (k + 1)) * (n * 2 ^ b)) ∧
    ((mg B k + mg B (k + 1)) * 2 ^ b ≤ 2 * ((2 * (D / n) + (D % n != 0).toNat) * 2 ^ a) ↔ (mg B k + mg B (k + 1)) * (n * 2 ^ b) ≤ 2 * (2 * D * 2 ^ a)) := by
  have ha := Nat.two_pow_pos a
  have eS : ∀ S, 2 * (S * 2 ^ a) = 2 * 2 ^ a * S := fun S => by rw [Nat.mul_comm S, Nat.mul_assoc]
  have eD : 2 * (2 * D * 2 ^ a) = 4 * 2 ^ a * D := by rw [Nat.mul_comm (2 * D), ← Nat.mul_assoc, ← Nat.mul_assoc, Nat.mul_right_comm 2, ]
  have eM : (mg B k + mg B (k + 1)) * (n * 2 ^ b) = (mg B k + mg B (k + 1)) * 2 ^ b * n := by rw [Nat.mul_comm n, Nat.mul_assoc]
  have e4 : ∀ c, 4 * 2 ^ a * c = 2 * 2 ^ a * (2 * c) := fun c => by
    rw [← Nat.mul_assoc (2 * 2 ^ a)]
    congr 1
    omega
  rw [eS, eD, eM]
  rcases mid_dich hB hq a b k with ⟨c, hc⟩ | hlt
  · rw [hc]
    have h4 : 0 < 4 * 2 ^ a := by omega
    have h2 : 0 < 2 * 2 ^ a := by omega
    rw [Nat.mul_assoc (4 * 2 ^ a)]
    constructor
    · rw [e4 c, Nat.mul_le_mul_left_iff h2, sticky_le hn, Nat.mul_le_mul_left_iff h4]
    · rw [e4 c, Nat.mul_le_mul_left_iff h2, sticky_ge hn, Nat.mul_le_mul_left_iff h4]
  · generalize (mg B k + mg B (k + 1)) * 2 ^ b = M at *
    have s1 : 4 * 2 ^ a * (D / n) ≤ 2 * 2 ^ a * (2 * (D / n) + (D % n != 0).toNat) := by rw [e4]; exact Nat.mul_le_mul_left _ (by omega)
    have s2 : M * n < 4 * 2 ^ a * D := by
      have t1 : M * n < 4 * 2 ^ a * (D / n) * n := Nat.mul_lt_mul_of_pos_right hlt hn
      have t2 : 4 * 2 ^ a * (D / n) * n ≤ 4 * 2 ^ a * D := by rw [Nat.mul_assoc]; exact Nat.mul_le_mul_left _ (Nat.div_mul_le_self D n)
      omega
    generalize 2 * 2 ^ a * (2 * (D / n) + (D % n != 0).toNat) = S at *
    constructor <;> constructor <;> intro h <;> omega

theorem IsRn.sticky {B D n a b r : Nat} (hB : 0 < B) (hn : 0 < n) (hq : 2 * B ≤ D / n) (h : IsRn B ((2 * (D / n) + (D % n != 0).toNat) * 2 ^ a) (2 ^ b) r) : IsRn B (2 * D * 2 ^ a) (n * 2 ^ b) r := by
  refine ⟨?_, ?_, ?_, ?_⟩
  · exact (sticky_mid hB hn hq a b r).1.1 h.up
  · intro e
    have m := sticky_mid hB hn hq a b r
    exact h.upe (Nat.le_antisymm (m.1.2 (Nat.le_of_eq e)) (m.2.2 (Nat.le_of_eq e.symm)))
  · rintro q rfl
    exact (sticky_mid hB hn hq a b q).2.1 (h.dn q rfl)
  · intro q hq' e
    subst hq'
    have m := sticky_mid hB hn hq a b q
    exact h.dne q rfl (Nat.le_antisymm (m.2.2 (Nat.le_of_eq e)) (m.1.2 (Nat.le_of_eq e.symm)))

/-- The quotient of two finite words, the lower not nought. -/
theorem div_fin (g : Good f) {x y : Nat} (hx : x < 2 ^ f.width) (hy : y < 2 ^ f.width) (hx1 : rung f x < f.infRung) (hy1 : rung f y < f.infRung) (hy0 : rung f y ≠ 0) (hL : f.leastPlace ≤ 0) :
    ∃ r, IsRn f.binade (mg f.binade (rung f x) * 2 ^ (-f.leastPlace).toNat) (mg f.binade (rung f y)) r ∧
      f.div x y = some (f.word (sgn f x ^^ sgn f y) (min r f.infRung)) := by
  have hB := binade_pos f
  obtain ⟨m, i, e1, li, hm, _, hm0⟩ := read_num hx hx1
  obtain ⟨n, j, e2, lj, hn, _, hn0⟩ := read_num hy hy1
  have hnz : n ≠ 0 := fun h => hy0 (hn0.1 h)
  unfold Format.div
  rw [e1, e2]
  simp only [Datum.quotient, if_neg hnz, Option.map_some, Format.write]
  rw [Nat.shiftLeft_eq]
  generalize hmore : f.fractionBits + 2 + n.log2 - m.log2 = more
  obtain ⟨r, hr, hw⟩ := nearest_rn g (sgn f x ^^ sgn f y) (2 * (m * 2 ^ more / n) + (m * 2 ^ more % n != 0).toNat) (i - j - more - 1)
  refine ⟨r, ?_, by rw [hw]⟩
  have hmy : 0 < mg f.binade (rung f y) := by rw [← hn]; exact Nat.mul_pos (Nat.pos_of_ne_zero hnz) (Nat.two_pow_pos _)
  by_cases hmz : m = 0
  · subst hmz
    rw [Nat.zero_mul] at hm hr
    rw [← hm, Nat.zero_mul]
    simp only [Nat.zero_div, Nat.mul_zero, Nat.zero_mod, bne_self_eq_false, Bool.toNat_false, Nat.add_zero, Nat.zero_mul] at hr
    rw [hr.unique hB (Nat.two_pow_pos _) (IsRn.zero hB (Nat.two_pow_pos _))]
    exact IsRn.zero hB hmy
  have hq : 2 * f.binade ≤ m * 2 ^ more / n := by
    rw [Nat.le_div_iff_mul_le (Nat.pos_of_ne_zero hnz)]
    have h1 : n < 2 ^ (n.log2 + 1) := Nat.lt_log2_self
    have h2 : 2 ^ m.log2 ≤ m := Nat.log2_self_le hmz
    have h3 : 2 ^ m.log2 * 2 ^ more ≤ m * 2 ^ more := Nat.mul_le_mul_right _ h2
    rw [← Nat.pow_add] at h3
    have h4 : 2 ^ (f.fractionBits + 1 + (n.log2 + 1)) ≤ 2 ^ (m.log2 + more) := Nat.pow_le_pow_right (by decide) (by omega)
    have h5 : 2 * f.binade * n ≤ 2 * f.binade * 2 ^ (n.log2 + 1) := Nat.mul_le_mul_left _ (Nat.le_of_lt h1)
    have h6 : 2 * f.binade = 2 ^ (f.fractionBits + 1) := by rw [Nat.pow_succ, Nat.mul_comm]; rfl
    rw [Nat.pow_add, ← h6] at h4
    omega
  refine (hr.sticky hB (Nat.pos_of_ne_zero hnz) hq).cross (Nat.mul_pos (Nat.pos_of_ne_zero hnz) (Nat.two_pow_pos _)) hmy ?_
  rw [← hm, ← hn]
  have c1 : 2 * (m * 2 ^ more) * 2 ^ (i - j - more - 1 - f.leastPlace).toNat * (n * 2 ^ (j - f.leastPlace).toNat) = m * n * (2 ^ (1 + more + (i - j - more - 1 - f.leastPlace).toNat + (j - f.leastPlace).toNat)) := by
    rw [Nat.pow_add, Nat.pow_add, Nat.pow_add]
    generalize 2 ^ more = A
    generalize 2 ^ (i - j - more - 1 - f.leastPlace).toNat = A'
    generalize 2 ^ (j - f.leastPlace).toNat = A''
    simp only [Nat.pow_one, Nat.mul_assoc, Nat.mul_comm, Nat.mul_left_comm]
  have c2 : m * 2 ^ (i - f.leastPlace).toNat * 2 ^ (-f.leastPlace).toNat * (n * 2 ^ (f.leastPlace - (i - j - more - 1)).toNat) = m * n * (2 ^ ((i - f.leastPlace).toNat + (-f.leastPlace).toNat + (f.leastPlace - (i - j - more - 1)).toNat)) := by
    rw [Nat.pow_add, Nat.pow_add]
    generalize 2 ^ (i - f.leastPlace).toNat = A
    generalize 2 ^ (-f.leastPlace).toNat = A'
    generalize 2 ^ (f.leastPlace - (i - j - more - 1)).toNat = A''
    simp only [Nat.mul_comm, Nat.mul_left_comm]
  rw [c1, c2]
  congr 2
  omega
end
end GFl

