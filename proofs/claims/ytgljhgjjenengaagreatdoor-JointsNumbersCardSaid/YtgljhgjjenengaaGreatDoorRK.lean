/- A joint as an argument of a row: opened. -/
import Derived.Test.YtgljhgjjenengaaGreatDoorRC
import Derived.Test.YtgljhgjjenengaaGreatDoorJk
import Derived.Deep.Fields
import Derived.Carry
namespace Go.Proofs.YtgljhgjjenengaaGreatDoor
open Go Go.ChangeShapes Go.WideShapes Go.RowKit Go.Deep
set_option maxRecDepth 100000

theorem rk_rec : Tryz.prog.readableRec 23 = true := by kernel_rfl
theorem rk_row : (23 : TypeId) < Tryz.prog.types.size := of_decide_eq_true (by kernel_rfl)
theorem rk_cells : Tryz.prog.cellsOf 23 = 4 := by kernel_rfl
theorem rk_c9 : Tryz.prog.cellsOf 9 = 1 := by kernel_rfl
theorem rk_c21 : Tryz.prog.cellsOf 21 = 1 := by kernel_rfl
theorem rk_c5 : Tryz.prog.cellsOf 5 = 1 := by kernel_rfl
section
variable {H : Type} {enc : TypeId × Value → H} {w : World} {base : Nat} {spare : Nat → Bool} {held : Bool}
theorem open_joint {r : Reach} {b0 : Nat} {v : Value} {d : DataW H} {p : List MemPlace} (hv : Value.okWide Tryz.prog w r b0 23 v) (h : DataW.Trod enc Tryz.prog w base spare held 23 v d p) :
    ∃ (s : ByteArray) (x y f : Int), v = .agg #[.string s, .int .i32 x, .int .i32 y, .int .u8 f] := by
  obtain ⟨cs, rfl, _⟩ := okWide_struct Tryz.underlying23 hv
  obtain ⟨fuel, h⟩ := h
  obtain ⟨xs, n, _, hx, hlen, hxl, hf⟩ := DataW.trod_struct Tryz.underlying23 h
  rw [rk_cells] at hlen
  obtain ⟨cs⟩ := cs
  change cs.length = 4 at hlen
  match cs, hlen with
  | [c0, c1, c2, c3], _ =>
    have h0 := hf 0 _ rfl
    have h1 := hf 1 _ rfl
    have h2 := hf 2 _ rfl
    have h3 := hf 3 _ rfl
    have hs : xs.length = 4 := hxl
    have g0 : DataW.trod enc Tryz.prog w base spare held n 9 [c0] = xs[0]? := h0
    have g1 : DataW.trod enc Tryz.prog w base spare held n 21 [c1] = xs[1]? := h1
    have g2 : DataW.trod enc Tryz.prog w base spare held n 21 [c2] = xs[2]? := h2
    have g3 : DataW.trod enc Tryz.prog w base spare held n 5 [c3] = xs[3]? := h3
    rw [List.getElem?_eq_getElem (by omega)] at g0 g1 g2 g3
    obtain ⟨s, e0, _, _⟩ := DataW.trod_string Tryz.underlying9 g0
    obtain ⟨a, e1, _, _⟩ := DataW.trod_int Tryz.underlying21 g1
    obtain ⟨b, e2, _, _⟩ := DataW.trod_int Tryz.underlying21 g2
    obtain ⟨f, e3, _, _⟩ := DataW.trod_int Tryz.underlying5 g3
    simp only [List.cons.injEq, and_true] at e0 e1 e2 e3
    subst e0 e1 e2 e3
    exact ⟨s, a, b, f, rfl⟩
end
end Go.Proofs.YtgljhgjjenengaaGreatDoor
