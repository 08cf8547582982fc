/- Plain laws of binary floats: comparisons by places; sums and products as nearest rungs. No program. -/
import Derived.Test.YtgljhgjjenengaaGreatDoorFfmt
namespace GFl
open Ieee

section
variable {f : Format}

/-- Is it none? -/
def nan (f : Format) (x : Nat) : Bool := decide (f.infRung < rung f x)
/-- The place: how many words lie between 0 and it, with its sign. -/
def pl (f : Format) (x : Nat) : Int := if sgn f x then -(rung f x : Int) else (rung f x : Int)
/-- The signed magnitude. -/
def sv (f : Format) (x : Nat) : Int := if sgn f x then -(mg f.binade (rung f x) : Int) else (mg f.binade (rung f x) : Int)

theorem signed_eq (s : Bool) (m u : Nat) : signed s m u = if s then -((m * 2 ^ u : Nat) : Int) else ((m * 2 ^ u : Nat) : Int) := by
  unfold signed; rw [Nat.shiftLeft_eq]

theorem signed_sv {x m : Nat} {e base : Int} (hb : base ≤ e) (hl : f.leastPlace ≤ base) (hm : m * 2 ^ (e - f.leastPlace).toNat = mg f.binade (rung f x)) :
    signed (sgn f x) m (e - base).toNat * (2 ^ (base - f.leastPlace).toNat : Nat) = sv f x := by
  rw [signed_eq]
  have h : m * 2 ^ (e - base).toNat * 2 ^ (base - f.leastPlace).toNat = mg f.binade (rung f x) := by
    rw [← hm, Nat.mul_assoc, ← Nat.pow_add]; congr 2; omega
  unfold sv
  cases sgn f x
  · simp only [Bool.false_eq_true, if_false]; rw [← h]; push_cast; rfl
  · simp only [if_true]; rw [← h]; push_cast; rw [Int.neg_mul]

theorem compare_mul (a b : Int) (c : Nat) (hc : 0 < c) : compare a b = compare (a * c) (b * c) := by
  have hc' : (0 : Int) < c := by omega
  rcases Int.lt_trichotomy a b with h | h | h
  · rw [Int.compare_eq_lt.2 h, Int.compare_eq_lt.2 (Int.mul_lt_mul_of_pos_right h hc')]
  · rw [Int.compare_eq_eq.2 h, Int.compare_eq_eq.2 (by rw [h])]
  · rw [Int.compare_eq_gt.2 h, Int.compare_eq_gt.2 (Int.mul_lt_mul_of_pos_right h hc')]

theorem sv_lt_iff {x y : Nat} : sv f x < sv f y ↔ pl f x < pl f y := by
  have hB := binade_pos f
  have h1 := @mg_lt_iff f.binade (rung f x) (rung f y) hB
  have h2 := @mg_lt_iff f.binade (rung f y) (rung f x) hB
  have h3 := le_mg f.binade (rung f x) hB
  have h4 := le_mg f.binade (rung f y) hB
  have h5 := @mg_lt_iff f.binade 0 (rung f y) hB
  have h6 := @mg_lt_iff f.binade 0 (rung f x) hB
  rw [mg_zero _ hB] at h5 h6
  unfold sv pl
  cases sgn f x <;> cases sgn f y <;> simp only [Bool.false_eq_true, if_false, if_true] <;> omega

theorem sv_inj {x y : Nat} : sv f x = sv f y ↔ pl f x = pl f y := by
  have := @sv_lt_iff f x y
  have := @sv_lt_iff f y x
  omega

theorem compare_sv {x y : Nat} : compare (sv f x) (sv f y) = compare (pl f x) (pl f y) := by
  rcases Int.lt_trichotomy (sv f x) (sv f y) with h | h | h
  · rw [Int.compare_eq_lt.2 h, Int.compare_eq_lt.2 (sv_lt_iff.1 h)]
  · rw [Int.compare_eq_eq.2 h, Int.compare_eq_eq.2 (sv_inj.1 h)]
  · rw [Int.compare_eq_gt.2 h, Int.compare_eq_gt.2 (sv_lt_iff.1 h)]

theorem infRung_pos (g : Good f) : 0 < f.infRung := by
  unfold Format.infRung
  have : 2 ^ 2 ≤ 2 ^ f.exponentBits := Nat.pow_le_pow_right (by omega) g.e
  exact Nat.mul_pos (by omega) (binade_pos f)

/-- How two words stand: by their places; not at all, if one is none. -/
theorem order_eq (g : Good f) {x y : Nat} (hx : x < 2 ^ f.width) (hy : y < 2 ^ f.width) :
    f.order x y = if nan f x || nan f y then none else some (compare (pl f x) (pl f y)) := by
  have hi := infRung_pos g
  unfold Format.order
  rcases Nat.lt_trichotomy (rung f x) f.infRung with hx1 | hx1 | hx1
  · obtain ⟨m, i, e1, li, hm, _, _⟩ := read_num hx hx1
    have nx : nan f x = false := by unfold nan; simp; omega
    rcases Nat.lt_trichotomy (rung f y) f.infRung with hy1 | hy1 | hy1
    · obtain ⟨n, j, e2, lj, hn, _, _⟩ := read_num hy hy1
      have ny : nan f y = false := by unfold nan; simp; omega
      rw [e1, e2, nx, ny]
      simp only [Datum.order, Bool.or_self, Bool.false_eq_true, if_false]
      rw [compare_mul _ _ (2 ^ (min i j - f.leastPlace).toNat) (Nat.two_pow_pos _), signed_sv (by omega) (by omega) hm, signed_sv (by omega) (by omega) hn, compare_sv]
    · have ny : nan f y = false := by unfold nan; simp; omega
      rw [e1, read_inf hy hy1 g, nx, ny]
      simp only [Datum.order, Bool.or_self, Bool.false_eq_true, if_false]
      congr 1
      unfold pl
      rw [hy1]
      cases sgn f y <;> cases sgn f x <;> simp only [Bool.false_eq_true, if_false, if_true] <;> symm <;> first | (rw [Int.compare_eq_lt]; omega) | (rw [Int.compare_eq_gt]; omega)
    · have ny : nan f y = true := by unfold nan; simp; omega
      rw [e1, read_nan hy hy1 g, ny]
      simp [Datum.order]
  · have nx : nan f x = false := by unfold nan; simp; omega
    rcases Nat.lt_trichotomy (rung f y) f.infRung with hy1 | hy1 | hy1
    · obtain ⟨n, j, e2, lj, hn, _, _⟩ := read_num hy hy1
      have ny : nan f y = false := by unfold nan; simp; omega
      rw [read_inf hx hx1 g, e2, nx, ny]
      simp only [Datum.order, Bool.or_self, Bool.false_eq_true, if_false]
      congr 1
      unfold pl
      rw [hx1]
      cases sgn f y <;> cases sgn f x <;> simp only [Bool.false_eq_true, if_false, if_true] <;> symm <;> first | (rw [Int.compare_eq_lt]; omega) | (rw [Int.compare_eq_gt]; omega)
    · have ny : nan f y = false := by unfold nan; simp; omega
      rw [read_inf hx hx1 g, read_inf hy hy1 g, nx, ny]
      simp only [Datum.order, Bool.or_self, Bool.false_eq_true, if_false]
      congr 1
      unfold pl
      rw [hx1, hy1]
      cases sgn f y <;> cases sgn f x <;> simp only [Bool.false_eq_true, if_false, if_true, Bool.toNat_true, Bool.toNat_false] <;> symm <;>
        first | (rw [Int.compare_eq_eq.2 rfl]; rfl) | (rw [Int.compare_eq_lt.2 (by omega)]; rfl) | (rw [Int.compare_eq_gt.2 (by omega)]; rfl)
    · have ny : nan f y = true := by unfold nan; simp; omega
      rw [read_inf hx hx1 g, read_nan hy hy1 g, ny]
      simp [Datum.order]
  · have nx : nan f x = true := by unfold nan; simp; omega
    rw [read_nan hx hx1 g, nx]
    simp [Datum.order]

theorem order_lt (g : Good f) {x y : Nat} (hx : x < 2 ^ f.width) (hy : y < 2 ^ f.width) :
    (f.order x y == some .lt) = (!nan f x && !nan f y && decide (pl f x < pl f y)) := by
  rw [order_eq g hx hy]
  cases nan f x <;> cases nan f y <;> simp
  rcases Int.lt_trichotomy (pl f x) (pl f y) with h | h | h
  · rw [Int.compare_eq_lt.2 h]; simp [h]
  · rw [Int.compare_eq_eq.2 h]; simp [h]
  · rw [Int.compare_eq_gt.2 h]; simp; omega

theorem order_gt (g : Good f) {x y : Nat} (hx : x < 2 ^ f.width) (hy : y < 2 ^ f.width) :
    (f.order x y == some .gt) = (!nan f x && !nan f y && decide (pl f y < pl f x)) := by
  rw [order_eq g hx hy]
  cases nan f x <;> cases nan f y <;> simp
  rcases Int.lt_trichotomy (pl f x) (pl f y) with h | h | h
  · rw [Int.compare_eq_lt.2 h]; simp; omega
  · rw [Int.compare_eq_eq.2 h]; simp [h]
  · rw [Int.compare_eq_gt.2 h]; simp [h]

theorem order_eqv (g : Good f) {x y : Nat} (hx : x < 2 ^ f.width) (hy : y < 2 ^ f.width) :
    (f.order x y == some .eq) = (!nan f x && !nan f y && decide (pl f x = pl f y)) := by
  rw [order_eq g hx hy]
  cases nan f x <;> cases nan f y <;> simp
  rcases Int.lt_trichotomy (pl f x) (pl f y) with h | h | h
  · rw [Int.compare_eq_lt.2 h]; simp; omega
  · rw [Int.compare_eq_eq.2 h]; simp [h]
  · rw [Int.compare_eq_gt.2 h]; simp; omega

theorem order_le (g : Good f) {x y : Nat} (hx : x < 2 ^ f.width) (hy : y < 2 ^ f.width) :
    (f.order x y == some .lt || f.order x y == some .eq) = (!nan f x && !nan f y && decide (pl f x ≤ pl f y)) := by
  rw [order_lt g hx hy, order_eqv g hx hy]
  cases nan f x <;> cases nan f y <;> simp
  rw [Bool.eq_iff_iff]; simp; omega

theorem order_ge (g : Good f) {x y : Nat} (hx : x < 2 ^ f.width) (hy : y < 2 ^ f.width) :
    (f.order x y == some .gt || f.order x y == some .eq) = (!nan f x && !nan f y && decide (pl f y ≤ pl f x)) := by
  rw [order_gt g hx hy, order_eqv g hx hy]
  cases nan f x <;> cases nan f y <;> simp
  rw [Bool.eq_iff_iff]; simp; omega

theorem order_ne (g : Good f) {x y : Nat} (hx : x < 2 ^ f.width) (hy : y < 2 ^ f.width) :
    (f.order x y != some .eq) = (nan f x || nan f y || decide (pl f x ≠ pl f y)) := by
  rw [bne, order_eqv g hx hy]
  cases nan f x <;> cases nan f y <;> simp

/-- The sum of two finite words. -/
theorem add_fin (g : Good f) {x y : Nat} (hx : x < 2 ^ f.width) (hy : y < 2 ^ f.width) (hx1 : rung f x < f.infRung) (hy1 : rung f y < f.infRung) :
    ∃ r, IsRn f.binade (sv f x + sv f y).natAbs 1 r ∧
      f.add x y = some (f.word (if sv f x + sv f y = 0 then sgn f x && sgn f y else decide (sv f x + sv f y < 0)) (min r f.infRung)) := by
  obtain ⟨m, i, e1, li, hm, _, _⟩ := read_num hx hx1
  obtain ⟨n, j, e2, lj, hn, _, _⟩ := read_num hy hy1
  unfold Format.add
  rw [e1, e2]
  simp only [Datum.sum, Option.map_some, Format.write]
  have a1 := signed_sv (f := f) (x := x) (m := m) (e := i) (base := min i j) (by omega) (by omega) hm
  have a2 := signed_sv (f := f) (x := y) (m := n) (e := j) (base := min i j) (by omega) (by omega) hn
  have hl : f.leastPlace ≤ min i j := by omega
  generalize min i j = base at *
  generalize signed (sgn f x) m (i - base).toNat = S at *
  generalize signed (sgn f y) n (j - base).toNat = T at *
  have hc : 0 < 2 ^ (base - f.leastPlace).toNat := Nat.two_pow_pos _
  have htot : (S + T) * (2 ^ (base - f.leastPlace).toNat : Nat) = sv f x + sv f y := by rw [Int.add_mul, a1, a2]
  obtain ⟨r, hr, hw⟩ := nearest_rn g (if S + T = 0 then sgn f x && sgn f y else decide (S + T < 0)) (S + T).natAbs base
  refine ⟨r, ?_, ?_⟩
  · have e3 : (f.leastPlace - base).toNat = 0 := by omega
    have e4 : (S + T).natAbs * 2 ^ (base - f.leastPlace).toNat = (sv f x + sv f y).natAbs := by
      rw [← htot, Int.natAbs_mul]; rfl
    rw [e3, e4] at hr
    exact hr
  · rw [hw]
    generalize 2 ^ (base - f.leastPlace).toNat = c at *
    have hc' : (0 : Int) < c := by omega
    have z : S + T = 0 ↔ sv f x + sv f y = 0 := by
      rw [← htot]; constructor
      · intro h; rw [h]; simp
      · intro h; rcases Int.mul_eq_zero.1 h with h | h
        · exact h
        · omega
    have l : S + T < 0 ↔ sv f x + sv f y < 0 := by
      rw [← htot]; constructor
      · intro h; exact Int.mul_neg_of_neg_of_pos h hc'
      · intro h
        by_cases h1 : S + T < 0
        · exact h1
        · have := Int.mul_nonneg (Int.not_lt.1 h1) (Int.le_of_lt hc'); omega
    simp only [z, l]

/-- The product of two finite words. -/
theorem mul_fin (g : Good f) {x y : Nat} (hx : x < 2 ^ f.width) (hy : y < 2 ^ f.width) (hx1 : rung f x < f.infRung) (hy1 : rung f y < f.infRung) (hL : f.leastPlace ≤ 0) :
    ∃ r, IsRn f.binade (mg f.binade (rung f x) * mg f.binade (rung f y)) (2 ^ (-f.leastPlace).toNat) r ∧
      f.mul x y = some (f.word (sgn f x ^^ sgn f y) (min r f.infRung)) := by
  obtain ⟨m, i, e1, li, hm, _, _⟩ := read_num hx hx1
  obtain ⟨n, j, e2, lj, hn, _, _⟩ := read_num hy hy1
  unfold Format.mul
  rw [e1, e2]
  simp only [Datum.product, Option.map_some, Format.write]
  obtain ⟨r, hr, hw⟩ := nearest_rn g (sgn f x ^^ sgn f y) (m * n) (i + j)
  refine ⟨r, hr.cross (Nat.two_pow_pos _) (Nat.two_pow_pos _) ?_, by rw [hw]⟩
  rw [← hm, ← hn]
  have e : m * 2 ^ (i - f.leastPlace).toNat * (n * 2 ^ (j - f.leastPlace).toNat) = m * n * (2 ^ (i - f.leastPlace).toNat * 2 ^ (j - f.leastPlace).toNat) := by
    rw [Nat.mul_assoc, Nat.mul_assoc m n]; congr 1; rw [Nat.mul_left_comm]
  rw [e]
  generalize m * n = q
  rw [Nat.mul_assoc q, Nat.mul_assoc q, ← Nat.pow_add, ← Nat.pow_add, ← Nat.pow_add]
  congr 2; omega

theorem word_lt (s : Bool) (r : Nat) (g : Good f) : f.word s (min r f.infRung) < 2 ^ f.width := by
  rw [width_eq]
  have := sw_eq f
  have := binade_pos f
  have := infRung_pos g
  unfold Format.word
  cases s <;> simp <;> omega
end
end GFl
