/- A list of joints as an argument of a row: opened. -/
import Derived.Test.YtgljhgjjenengaaDoorRC
import Derived.Test.YtgljhgjjenengaaDoorYJt
import Derived.Deep.Slices
import Derived.Deep.Fields
import Derived.Carry
import Derived.SizedLaws
namespace Go.Proofs.YtgljhgjjenengaaDoor
open Go Go.ChangeShapes Go.WideShapes Go.RowKit Go.Deep
open Go.Proofs.YtgljhgjjenengaaDoorW.PrintWords (Kd)
open XJt (S33 k33 okJb)
set_option maxRecDepth 100000

theorem rj_rec : Tryd.prog.readableRec 22 = true := by kernel_rfl
theorem rj_row : (22 : TypeId) < Tryd.prog.types.size := of_decide_eq_true (by kernel_rfl)
theorem rj_cells : Tryd.prog.cellsOf 33 = 4 := by kernel_rfl
theorem rj_c9 : Tryd.prog.cellsOf 9 = 1 := by kernel_rfl
theorem rj_c21 : Tryd.prog.cellsOf 21 = 1 := by kernel_rfl
theorem rj_c5 : Tryd.prog.cellsOf 5 = 1 := by kernel_rfl
theorem list_of {p : Nat → S33 → Prop} : ∀ n, (∀ i, i < n → ∃ j, p i j) → ∃ l : List S33, l.length = n ∧ ∀ i j, l[i]? = some j → p i j
  | 0, _ => ⟨[], rfl, fun i j h => by simp at h⟩
  | n + 1, h => by
    obtain ⟨l, hl, hp⟩ := list_of n (fun i hi => h i (by omega))
    obtain ⟨j, hj⟩ := h n (by omega)
    refine ⟨l ++ [j], by simp [hl], fun i x hx => ?_⟩
    rcases Nat.lt_or_ge i l.length with hi | hi
    · rw [List.getElem?_append_left hi] at hx; exact hp i x hx
    · rw [List.getElem?_append_right hi] at hx
      have e : i - l.length = 0 := by
        have := (List.getElem?_eq_some_iff.1 hx).1
        simp at this; omega
      rw [e] at hx
      have : x = j := by simpa using hx.symm
      subst this
      have : i = n := by omega
      subst this; exact hj
section
variable {H : Type} {enc : TypeId × Value → H} {w : World} {base : Nat} {spare : Nat → Bool} {held : Bool}
/-- One joint's cells, read. -/
theorem open_jcells {fuel : Nat} {cs : List Value} {x : DataW H × List MemPlace} (h : DataW.trod enc Tryd.prog w base spare held fuel 33 cs = some x) : ∃ j : S33, cs = jc j ∧ okJb j = true := by
  obtain ⟨xs, n, _, hx, hlen, hxl, hf⟩ := DataW.trod_struct Tryd.underlying33 h
  rw [rj_cells] at hlen
  match cs, hlen with
  | [c0, c1, c2, c3], _ =>
    have h0 := hf 0 _ rfl
    have h1 := hf 1 _ rfl
    have h2 := hf 2 _ rfl
    have h3 := hf 3 _ rfl
    have hs : xs.length = 4 := hxl
    have g0 : DataW.trod enc Tryd.prog w base spare held n 9 [c0] = xs[0]? := h0
    have g1 : DataW.trod enc Tryd.prog w base spare held n 21 [c1] = xs[1]? := h1
    have g2 : DataW.trod enc Tryd.prog w base spare held n 21 [c2] = xs[2]? := h2
    have g3 : DataW.trod enc Tryd.prog w base spare held n 5 [c3] = xs[3]? := h3
    rw [List.getElem?_eq_getElem (by omega)] at g0 g1 g2 g3
    obtain ⟨s, e0, _, w0⟩ := DataW.trod_string Tryd.underlying9 g0
    obtain ⟨a, e1, _, w1⟩ := DataW.trod_int Tryd.underlying21 g1
    obtain ⟨b, e2, _, w2⟩ := DataW.trod_int Tryd.underlying21 g2
    obtain ⟨f, e3, _, w3⟩ := DataW.trod_int Tryd.underlying5 g3
    simp only [List.cons.injEq, and_true] at e0 e1 e2 e3
    subst e0 e1 e2 e3
    refine ⟨⟨s, a, b, f⟩, rfl, ?_⟩
    unfold okJb
    simp only [Bool.and_eq_true, decide_eq_true_eq]
    exact ⟨w0, w1, w2⟩
theorem open_joints {r : Reach} {b0 : Nat} {v : Value} {d : DataW H} {p : List MemPlace} (hv : Value.okWide Tryd.prog w r b0 22 v) (h : DataW.Trod enc Tryd.prog w base spare held 22 v d p) :
    ∃ (A : Option Addr) (c : Nat) (l : List S33), v = .slice A l.length c ∧ l.length ≤ c ∧ Kd.C k33 w A l.length l ∧ l.all okJb = true := by
  obtain ⟨a, len, cap, rfl⟩ := okWide_slice Tryd.underlying22 hv
  obtain ⟨fuel, hf⟩ := h
  rcases open_slice Tryd.underlying22 hf with ⟨hcs, _⟩ | ⟨ad, l, c, m, n, D, Pl, hcs, hb, hl, hm, hmm, hx, hi⟩
  · simp [Value.cells] at hcs
    obtain ⟨rfl, rfl, rfl⟩ := hcs
    exact ⟨none, 0, [], rfl, Nat.le_refl _, Kd.C_nil _ _, rfl⟩
  · simp [Value.cells] at hcs
    obtain ⟨rfl, rfl, rfl⟩ := hcs
    have hlm : len ≤ m := by rw [hmm]; split <;> omega
    obtain ⟨js, hj, hp⟩ := list_of (p := fun i j => (∀ k u, (jc j)[k]? = some u → w.cell? (ad.add (i * 4 + k)) = some u) ∧ okJb j = true) len (fun i hil => by
      obtain ⟨cs', hc, ht⟩ := hi i (by omega)
      rw [rj_cells] at hc
      obtain ⟨j, rfl, ho⟩ := open_jcells ht
      obtain ⟨_, _, hat⟩ := World.cells?_some hc
      refine ⟨j, fun k u hu => ?_, ho⟩
      have hk : k < 4 := (List.getElem?_eq_some_iff.1 hu).1
      rw [← hu, ← hat k hk, Go.Deep.add_add])
    subst hj
    have hmx : cap ≤ 9223372036854775807 := hm
    refine ⟨some ad, cap, js, rfl, hl, ⟨rfl, by omega, fun _ => ⟨ad, rfl, fun i j hij => ⟨jc j, rfl, XJt.k33_mk w j, fun k u hu => (hp i j hij).1 k u hu⟩⟩⟩, ?_⟩
    rw [List.all_eq_true]
    intro j hjm
    obtain ⟨i, hi1, rfl⟩ := List.getElem_of_mem hjm
    exact (hp i _ (List.getElem?_eq_getElem hi1)).2
end

theorem rj_bytes : Tryd.prog.bytesOf 33 = 32 := by kernel_rfl
section
variable {H : Type} {enc : TypeId × Value → H} {w : World} {base : Nat} {spare : Nat → Bool} {held : Bool}
theorem open_lent {r : Reach} {b0 : Nat} {v : Value} {d : DataW H} {p : List MemPlace} (hv : Value.okWide Tryd.prog w r b0 22 v) (h : DataW.Trod enc Tryd.prog w base spare held 22 v d p) :
    ∃ (A : Option Addr) (c : Nat) (l : List S33), v = .slice A l.length c ∧ l.length ≤ c ∧ Kd.C k33 w A l.length l ∧ l.all okJb = true ∧ (A = none → c = 0 ∧ l = []) ∧ (l = [] ∨ ∃ E S : List (DataW H), d = .slice E S ∧ E.length = l.length) := by
  have h' := h
  obtain ⟨A, c, l, rfl, hl, hC, ho⟩ := open_joints hv h
  obtain ⟨fuel, hf⟩ := h'
  refine ⟨A, c, l, rfl, hl, hC, ho, ?_⟩
  rcases open_slice Tryd.underlying22 hf with ⟨hcs, _⟩ | ⟨ad, n, cap, m, k, D, Pl, hcs, hb, hle, hm, hmm, hx, hi⟩
  · simp [Value.cells] at hcs
    obtain ⟨rfl, h0, rfl⟩ := hcs
    subst h0
    exact ⟨fun _ => ⟨rfl, rfl⟩, Or.inl rfl⟩
  · simp [Value.cells] at hcs
    obtain ⟨rfl, hn, rfl⟩ := hcs
    refine ⟨fun h => (by cases h), Or.inr ⟨_, _, congrArg Prod.fst hx, ?_⟩⟩
    simp [hn]
theorem lent_size {ts : List TypeId} {ds : List (DataW H)} {j : Nat} {d : DataW H} {l : List S33} (hD : l = [] ∨ ∃ E S : List (DataW H), d = .slice E S ∧ E.length = l.length) (hsz : (DataW.weightsEach Tryd.prog ts ds).all (· ≤ reachBytes) = true) (ht : ts[j]? = some 22) (hd : ds[j]? = some d) : l.length * 32 ≤ 140737488351232 := by
  rcases hD with rfl | ⟨E, S, rfl, hE⟩
  · simp
  · have := sized_slice hsz ht hd Tryd.underlying22
    rw [rj_bytes] at this
    simp only [reachBytes] at this
    omega
theorem open_str {r : Reach} {b0 : Nat} {v : Value} (hv : Value.okWide Tryd.prog w r b0 9 v) : ∃ s : ByteArray, v = .string s := okWide_string Tryd.underlying9 hv
end
end Go.Proofs.YtgljhgjjenengaaDoor
