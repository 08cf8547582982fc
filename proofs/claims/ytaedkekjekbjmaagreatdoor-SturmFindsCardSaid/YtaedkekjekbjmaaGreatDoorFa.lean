import Derived.RowKit
/- Plain laws: lists of 32-bit words as whole numbers. No program. -/
namespace Nv

/-- Are these words? -/
def Dg (l : List Int) : Prop := ∀ d ∈ l, 0 ≤ d ∧ d < 4294967296
/-- The number of a list of words, the least first. -/
def nv : List Int → Int
  | [] => 0
  | d :: l => d + 4294967296 * nv l
def bs (n : Nat) : Int := 4294967296 ^ n
theorem bs_zero : bs 0 = 1 := rfl
theorem bs_succ (n : Nat) : bs (n + 1) = 4294967296 * bs n := by unfold bs; rw [Int.pow_succ, Int.mul_comm]
theorem bs_add (a b : Nat) : bs (a + b) = bs a * bs b := Int.pow_add ..
theorem bs_pos (n : Nat) : 0 < bs n := Int.pow_pos (by decide)
theorem Dg.nil : Dg [] := fun _ h => by cases h
theorem Dg.cons {d : Int} {l : List Int} : Dg (d :: l) ↔ (0 ≤ d ∧ d < 4294967296) ∧ Dg l := by simp [Dg]
theorem Dg.app {a b : List Int} : Dg (a ++ b) ↔ Dg a ∧ Dg b := by
  unfold Dg
  simp only [List.mem_append]
  exact ⟨fun h => ⟨fun d hd => h d (.inl hd), fun d hd => h d (.inr hd)⟩, fun h d hd => hd.elim (h.1 d) (h.2 d)⟩
theorem Dg.take {l : List Int} (h : Dg l) (n : Nat) : Dg (l.take n) := fun d hd => h d (List.mem_of_mem_take hd)
theorem Dg.set {l : List Int} (h : Dg l) {i : Nat} {d : Int} (h0 : 0 ≤ d) (h1 : d < 4294967296) : Dg (l.set i d) := fun x hx => by
  rcases List.mem_or_eq_of_mem_set hx with hx | rfl
  · exact h x hx
  · exact ⟨h0, h1⟩
theorem Dg.at {l : List Int} (h : Dg l) {i : Nat} (hi : i < l.length) : 0 ≤ l[i] ∧ l[i] < 4294967296 := h _ (List.getElem_mem hi)
theorem Dg.zeros (n : Nat) : Dg (List.replicate n 0) := fun d hd => by rw [List.eq_of_mem_replicate hd]; exact ⟨by decide, by decide⟩
theorem nv_nil : nv [] = 0 := rfl
theorem nv_cons (d : Int) (l : List Int) : nv (d :: l) = d + 4294967296 * nv l := rfl
theorem nv_app (a b : List Int) : nv (a ++ b) = nv a + bs a.length * nv b := by
  induction a with
  | nil => simp [nv, bs_zero]
  | cons d a ih => rw [List.cons_append, nv_cons, nv_cons, ih, List.length_cons, bs_succ, Int.mul_add, Int.mul_assoc, Int.add_assoc]
theorem nv_zeros (n : Nat) : nv (List.replicate n 0) = 0 := by
  induction n with
  | zero => rfl
  | succ n ih => rw [List.replicate_succ, nv_cons, ih]; rfl
theorem nv_nonneg {l : List Int} (h : Dg l) : 0 ≤ nv l := by
  induction l with
  | nil => exact Int.le_refl _
  | cons d l ih => have := Dg.cons.1 h; have := ih this.2; rw [nv_cons]; omega
theorem nv_lt {l : List Int} (h : Dg l) : nv l < bs l.length := by
  induction l with
  | nil => decide
  | cons d l ih => have := Dg.cons.1 h; have := ih this.2; rw [nv_cons, List.length_cons, bs_succ]; omega
theorem nv_take_succ {l : List Int} {i : Nat} (h : i < l.length) : nv (l.take (i + 1)) = nv (l.take i) + bs i * l[i] := by
  rw [List.take_succ_eq_append_getElem h, nv_app, nv_cons, nv_nil, List.length_take, Nat.min_eq_left (by omega)]; simp
theorem take_set_ge {l : List Int} {i j : Nat} {d : Int} (h : i ≤ j) : (l.set j d).take i = l.take i := by
  rw [List.take_set]
  exact List.set_eq_of_length_le (by rw [List.length_take]; omega)
/-- No nought at the end. -/
def Nm (l : List Int) : Prop := Dg l ∧ ∀ h : l ≠ [], l.getLast h ≠ 0
theorem Nm.nil : Nm [] := ⟨Dg.nil, fun h => absurd rfl h⟩
theorem Nm.lower {l : List Int} (h : Nm l) (h0 : l ≠ []) : bs (l.length - 1) ≤ nv l := by
  obtain ⟨m, d, rfl⟩ : ∃ m d, l = m ++ [d] := ⟨l.dropLast, l.getLast h0, (List.dropLast_concat_getLast h0).symm⟩
  have hd := Dg.app.1 h.1
  have h1 := h.2 (by simp)
  rw [List.getLast_concat] at h1
  have h2 := (Dg.cons.1 hd.2).1
  have h3 := nv_nonneg hd.1
  rw [nv_app, nv_cons, nv_nil, List.length_append, List.length_singleton, Nat.add_sub_cancel]
  have h4 : bs m.length * 1 ≤ bs m.length * (d + 4294967296 * 0) := Int.mul_le_mul_of_nonneg_left (by omega) (Int.le_of_lt (bs_pos _))
  omega
theorem Nm.zero {l : List Int} (h : Nm l) : nv l = 0 ↔ l = [] := by
  constructor
  · intro e
    apply Classical.byContradiction
    intro h0
    have := h.lower h0
    have := bs_pos (l.length - 1)
    omega
  · rintro rfl; rfl
theorem bs_le {a b : Nat} (h : a ≤ b) : bs a ≤ bs b := by
  obtain ⟨c, rfl⟩ : ∃ c, b = a + c := ⟨b - a, by omega⟩
  rw [bs_add]
  have := bs_pos a
  have h1 : bs a * 1 ≤ bs a * bs c := Int.mul_le_mul_of_nonneg_left (by have := bs_pos c; omega) (Int.le_of_lt this)
  omega
theorem Nm.len_lt {a b : List Int} (ha : Dg a) (hb : Nm b) (h : a.length < b.length) : nv a < nv b := by
  have h1 := nv_lt ha
  have h2 := hb.lower (by intro e; rw [e] at h; simp at h)
  have h3 := bs_le (show a.length ≤ b.length - 1 by omega)
  omega
theorem Nm.ext {a b : List Int} (ha : Nm a) (hb : Nm b) (h : nv a = nv b) : a = b := by
  have hl : a.length = b.length := by
    rcases Nat.lt_trichotomy a.length b.length with h1 | h1 | h1
    · have := Nm.len_lt ha.1 hb h1; omega
    · exact h1
    · have := Nm.len_lt hb.1 ha h1; omega
  have key : ∀ (a b : List Int), Dg a → Dg b → a.length = b.length → nv a = nv b → a = b := by
    intro a
    induction a with
    | nil => intro b _ _ hl _; exact (List.eq_nil_of_length_eq_zero (by simpa using hl.symm)).symm
    | cons d a ih =>
      intro b hda hdb hl hn
      cases b with
      | nil => simp at hl
      | cons e b =>
        have h1 := Dg.cons.1 hda
        have h2 := Dg.cons.1 hdb
        rw [nv_cons, nv_cons] at hn
        have e1 : d = e := by omega
        have e2 : nv a = nv b := by omega
        rw [e1, ih b h1.2 h2.2 (by simpa using hl) e2]
  exact key a b ha.1 hb.1 hl h
attribute [irreducible] bs nv
end Nv

/- Plain laws: lists of 64-bit limbs as whole numbers. No program. -/
namespace Nv

/-- Are these words? -/
def Lm (l : List Int) : Prop := ∀ d ∈ l, 0 ≤ d ∧ d < 18446744073709551616
/-- The number of a list of words, the least first. -/
def lv : List Int → Int
  | [] => 0
  | d :: l => d + 18446744073709551616 * lv l
def ls (n : Nat) : Int := 18446744073709551616 ^ n
theorem ls_zero : ls 0 = 1 := rfl
theorem ls_succ (n : Nat) : ls (n + 1) = 18446744073709551616 * ls n := by unfold ls; rw [Int.pow_succ, Int.mul_comm]
theorem ls_add (a b : Nat) : ls (a + b) = ls a * ls b := Int.pow_add ..
theorem ls_pos (n : Nat) : 0 < ls n := Int.pow_pos (by decide)
theorem Lm.nil : Lm [] := fun _ h => by cases h
theorem Lm.cons {d : Int} {l : List Int} : Lm (d :: l) ↔ (0 ≤ d ∧ d < 18446744073709551616) ∧ Lm l := by simp [Lm]
theorem Lm.app {a b : List Int} : Lm (a ++ b) ↔ Lm a ∧ Lm b := by
  unfold Lm
  simp only [List.mem_append]
  exact ⟨fun h => ⟨fun d hd => h d (.inl hd), fun d hd => h d (.inr hd)⟩, fun h d hd => hd.elim (h.1 d) (h.2 d)⟩
theorem Lm.take {l : List Int} (h : Lm l) (n : Nat) : Lm (l.take n) := fun d hd => h d (List.mem_of_mem_take hd)
theorem Lm.set {l : List Int} (h : Lm l) {i : Nat} {d : Int} (h0 : 0 ≤ d) (h1 : d < 18446744073709551616) : Lm (l.set i d) := fun x hx => by
  rcases List.mem_or_eq_of_mem_set hx with hx | rfl
  · exact h x hx
  · exact ⟨h0, h1⟩
theorem Lm.at {l : List Int} (h : Lm l) {i : Nat} (hi : i < l.length) : 0 ≤ l[i] ∧ l[i] < 18446744073709551616 := h _ (List.getElem_mem hi)
theorem Lm.zeros (n : Nat) : Lm (List.replicate n 0) := fun d hd => by rw [List.eq_of_mem_replicate hd]; exact ⟨by decide, by decide⟩
theorem lv_nil : lv [] = 0 := rfl
theorem lv_cons (d : Int) (l : List Int) : lv (d :: l) = d + 18446744073709551616 * lv l := rfl
theorem lv_app (a b : List Int) : lv (a ++ b) = lv a + ls a.length * lv b := by
  induction a with
  | nil => simp [lv, ls_zero]
  | cons d a ih => rw [List.cons_append, lv_cons, lv_cons, ih, List.length_cons, ls_succ, Int.mul_add, Int.mul_assoc, Int.add_assoc]
theorem lv_nonneg {l : List Int} (h : Lm l) : 0 ≤ lv l := by
  induction l with
  | nil => exact Int.le_refl _
  | cons d l ih => have := Lm.cons.1 h; have := ih this.2; rw [lv_cons]; omega
theorem lv_lt {l : List Int} (h : Lm l) : lv l < ls l.length := by
  induction l with
  | nil => decide
  | cons d l ih => have := Lm.cons.1 h; have := ih this.2; rw [lv_cons, List.length_cons, ls_succ]; omega
theorem lv_take_succ {l : List Int} {i : Nat} (h : i < l.length) : lv (l.take (i + 1)) = lv (l.take i) + ls i * l[i] := by
  rw [List.take_succ_eq_append_getElem h, lv_app, lv_cons, lv_nil, List.length_take, Nat.min_eq_left (by omega)]; simp
/-- No nought at the end. -/
def Nl (l : List Int) : Prop := Lm l ∧ ∀ h : l ≠ [], l.getLast h ≠ 0
theorem Nl.nil : Nl [] := ⟨Lm.nil, fun h => absurd rfl h⟩
theorem Nl.lower {l : List Int} (h : Nl l) (h0 : l ≠ []) : ls (l.length - 1) ≤ lv l := by
  obtain ⟨m, d, rfl⟩ : ∃ m d, l = m ++ [d] := ⟨l.dropLast, l.getLast h0, (List.dropLast_concat_getLast h0).symm⟩
  have hd := Lm.app.1 h.1
  have h1 := h.2 (by simp)
  rw [List.getLast_concat] at h1
  have h2 := (Lm.cons.1 hd.2).1
  have h3 := lv_nonneg hd.1
  rw [lv_app, lv_cons, lv_nil, List.length_append, List.length_singleton, Nat.add_sub_cancel]
  have h4 : ls m.length * 1 ≤ ls m.length * (d + 18446744073709551616 * 0) := Int.mul_le_mul_of_nonneg_left (by omega) (Int.le_of_lt (ls_pos _))
  omega
theorem Nl.zero {l : List Int} (h : Nl l) : lv l = 0 ↔ l = [] := by
  constructor
  · intro e
    apply Classical.byContradiction
    intro h0
    have := h.lower h0
    have := ls_pos (l.length - 1)
    omega
  · rintro rfl; rfl
theorem ls_le {a b : Nat} (h : a ≤ b) : ls a ≤ ls b := by
  obtain ⟨c, rfl⟩ : ∃ c, b = a + c := ⟨b - a, by omega⟩
  rw [ls_add]
  have := ls_pos a
  have h1 : ls a * 1 ≤ ls a * ls c := Int.mul_le_mul_of_nonneg_left (by have := ls_pos c; omega) (Int.le_of_lt this)
  omega
theorem Nl.len_lt {a b : List Int} (ha : Lm a) (hb : Nl b) (h : a.length < b.length) : lv a < lv b := by
  have h1 := lv_lt ha
  have h2 := hb.lower (by intro e; rw [e] at h; simp at h)
  have h3 := ls_le (show a.length ≤ b.length - 1 by omega)
  omega
theorem Nl.ext {a b : List Int} (ha : Nl a) (hb : Nl b) (h : lv a = lv b) : a = b := by
  have hl : a.length = b.length := by
    rcases Nat.lt_trichotomy a.length b.length with h1 | h1 | h1
    · have := Nl.len_lt ha.1 hb h1; omega
    · exact h1
    · have := Nl.len_lt hb.1 ha h1; omega
  have key : ∀ (a b : List Int), Lm a → Lm b → a.length = b.length → lv a = lv b → a = b := by
    intro a
    induction a with
    | nil => intro b _ _ hl _; exact (List.eq_nil_of_length_eq_zero (by simpa using hl.symm)).symm
    | cons d a ih =>
      intro b hda hdb hl hn
      cases b with
      | nil => simp at hl
      | cons e b =>
        have h1 := Lm.cons.1 hda
        have h2 := Lm.cons.1 hdb
        rw [lv_cons, lv_cons] at hn
        have e1 : d = e := by omega
        have e2 : lv a = lv b := by omega
        rw [e1, ih b h1.2 h2.2 (by simpa using hl) e2]
  exact key a b ha.1 hb.1 hl h
/-- The limbs' halves. -/
def spl : List Int → List Int
  | [] => []
  | d :: l => d % 4294967296 :: d / 4294967296 :: spl l
theorem spl_app (a b : List Int) : spl (a ++ b) = spl a ++ spl b := by
  induction a with
  | nil => rfl
  | cons d a ih => show _ :: _ :: spl (a ++ b) = _ :: _ :: (spl a ++ spl b); rw [ih]
theorem spl_len (l : List Int) : (spl l).length = 2 * l.length := by
  induction l with
  | nil => rfl
  | cons d l ih => show (spl l).length + 1 + 1 = 2 * (l.length + 1); omega
theorem spl_dg {l : List Int} (h : Lm l) : Dg (spl l) := by
  induction l with
  | nil => exact Dg.nil
  | cons d l ih =>
    have := Lm.cons.1 h
    show Dg (_ :: _ :: spl l)
    rw [Dg.cons, Dg.cons]
    exact ⟨by omega, by omega, ih this.2⟩
theorem spl_nv (l : List Int) : nv (spl l) = lv l := by
  induction l with
  | nil => rw [show spl [] = [] from rfl, nv_nil]; rfl
  | cons d l ih =>
    rw [show spl (d :: l) = d % 4294967296 :: d / 4294967296 :: spl l from rfl, nv_cons, nv_cons, ih, lv_cons]
    omega
theorem Nl.len {l : List Int} (h : Nl l) {m : Nat} (hb : lv l < ls m) : l.length ≤ m := by
  rcases Nat.lt_or_ge m l.length with h1 | h1
  · have h0 : l ≠ [] := fun e => by rw [e] at h1; simp at h1
    have := h.lower h0
    have := ls_le (show m ≤ l.length - 1 by omega)
    omega
  · exact h1
attribute [irreducible] ls lv
end Nv
