/- A list of joints as an argument of a row: opened with its weight; a string as an argument. -/
import Derived.Test.YtgljhgjjenengaaDoorRJ
import Derived.SizedLaws
namespace Go.Proofs.YtgljhgjjenengaaDoor
open Go Go.ChangeShapes Go.WideShapes Go.RowKit Go.Deep
open Go.Proofs.YtgljhgjjenengaaDoorW.PrintWords (Kd)
open XJt (S33 k33 okJb)
set_option maxRecDepth 100000

theorem rj_bytes : Tryd.prog.bytesOf 33 = 32 := by kernel_rfl
section
variable {H : Type} {enc : TypeId × Value → H} {w : World} {base : Nat} {spare : Nat → Bool} {held : Bool}
theorem open_lent {r : Reach} {b0 : Nat} {v : Value} {d : DataW H} {p : List MemPlace} (hv : Value.okWide Tryd.prog w r b0 22 v) (h : DataW.Trod enc Tryd.prog w base spare held 22 v d p) :
    ∃ (A : Option Addr) (c : Nat) (l : List S33), v = .slice A l.length c ∧ l.length ≤ c ∧ Kd.C k33 w A l.length l ∧ l.all okJb = true ∧ (A = none → c = 0 ∧ l = []) ∧ (l = [] ∨ ∃ E S : List (DataW H), d = .slice E S ∧ E.length = l.length) := by
  have h' := h
  obtain ⟨A, c, l, rfl, hl, hC, ho⟩ := open_joints hv h
  obtain ⟨fuel, hf⟩ := h'
  refine ⟨A, c, l, rfl, hl, hC, ho, ?_⟩
  rcases open_slice Tryd.underlying22 hf with ⟨hcs, _⟩ | ⟨ad, n, cap, m, k, D, Pl, hcs, hb, hle, hm, hmm, hx, hi⟩
  · simp [Value.cells] at hcs
    obtain ⟨rfl, h0, rfl⟩ := hcs
    subst h0
    exact ⟨fun _ => ⟨rfl, rfl⟩, Or.inl rfl⟩
  · simp [Value.cells] at hcs
    obtain ⟨rfl, hn, rfl⟩ := hcs
    refine ⟨fun h => (by cases h), Or.inr ⟨_, _, congrArg Prod.fst hx, ?_⟩⟩
    simp [hn]
theorem lent_size {ts : List TypeId} {ds : List (DataW H)} {j : Nat} {d : DataW H} {l : List S33} (hD : l = [] ∨ ∃ E S : List (DataW H), d = .slice E S ∧ E.length = l.length) (hsz : (DataW.weightsEach Tryd.prog ts ds).all (· ≤ reachBytes) = true) (ht : ts[j]? = some 22) (hd : ds[j]? = some d) : l.length * 32 ≤ 140737488351232 := by
  rcases hD with rfl | ⟨E, S, rfl, hE⟩
  · simp
  · have := sized_slice hsz ht hd Tryd.underlying22
    rw [rj_bytes] at this
    simp only [reachBytes] at this
    omega
theorem open_str {r : Reach} {b0 : Nat} {v : Value} (hv : Value.okWide Tryd.prog w r b0 9 v) : ∃ s : ByteArray, v = .string s := okWide_string Tryd.underlying9 hv
end
end Go.Proofs.YtgljhgjjenengaaDoor
