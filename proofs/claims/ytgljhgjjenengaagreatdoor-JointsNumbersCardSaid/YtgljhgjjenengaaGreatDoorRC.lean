/- The frame of the rows of a seat whose laws list math/bits' table, which they do not read. -/
import Derived.Test.YtgljhgjjenengaaGreatDoorK
import Derived.ProofKit
import Derived.Lib.LaidTab
import Derived.Shelf.Spec.TrailingZeros
import Derived.SevenTiedAt
import Derived.JoinedOf
import Derived.ChangeSame
import Derived.ChangeVars
namespace Go.Proofs.YtgljhgjjenengaaGreatDoor
open Go Go.ChangeShapes Go.WideShapes Go.RowKit GFl
set_option maxRecDepth 100000

theorem Tryz.own : ownKnob Tryz.prog.godebug = none := by kernel_rfl
theorem w64_of {x : Nat} (h : (Lit.float .f64 x).wf = true) : W64 x := W64.mk (by simpa [Lit.wf] using h)
theorem i64_of {x : Int} (h : (Lit.int .i64 x).wf = true) : -9223372036854775808 ≤ x ∧ x ≤ 9223372036854775807 := by simpa [Lit.wf, IntKind.min, IntKind.max, IntKind.signed, IntKind.bits] using h
theorem no_standIn {ps : Array TypeId} {fn : Func} (h : fn.params = ps) (hall : (ps.toList.all fun t => !Tryz.prog.wantsStandIn t) = true) : ∀ (j : Nat) (t : TypeId), fn.params[j]? = some t → Tryz.prog.wantsStandIn t = false := by
  intro j t ht
  rw [h] at ht
  have hm : t ∈ ps.toList := by rw [Array.mem_toList_iff]; exact Array.mem_of_getElem? ht
  have := List.all_eq_true.1 hall t hm
  simpa using this
def tabZs : List Int := Lib.deBruijn64tab.map fun (n : Nat) => (n : Int)
def laidL : List (String × DataW Unit) := [("math/bits.deBruijn64tab", Rows.laid_math_bits_deBruijn64tab)]
theorem laidL_eq : laidL = ("math/bits.deBruijn64tab", Lib.tabData .u8 tabZs) :: [] := by kernel_rfl
theorem tab_named : Tryz.prog.globalNamed "math/bits.deBruijn64tab" = some 1 := by kernel_rfl
theorem tab_type : (Tryz.prog.globals[1]?).map (·.type) = some 124 := by kernel_rfl
def tabCells : Array Value := (tabZs.map fun z => Value.int .u8 z).toArray
noncomputable def laidWorld (os : Os) : World :=
  { World.holding Tryz.prog os ⟨#[], #[], []⟩ with heap := (World.holding Tryz.prog os ⟨#[], #[], []⟩).heap.modify 1 fun
      | .cells _ t frozen => .cells tabCells t frozen
      | o => o }
theorem laidWorld_row (os : Os) (args : Array Value) : ((laidWorld os).forCall (fun _ _ => 0) ⟨#[], args, []⟩).memory.heap[1]? = some (.cells tabCells 124 (0, 0)) := by kernel_rfl
theorem tab_places : ((MemPlace.row ⟨1, 0, none⟩ tabCells.size ++ ([] : List MemPlace) ++ []).Nodup) := by decide
theorem laidWorld_met (os : Os) (args : Array Value) : laidMet Tryz.prog laidL ((laidWorld os).forCall (fun _ _ => 0) ⟨#[], args, []⟩).memory := by
  refine ⟨_, ⟨1, 124, tabCells, 8, [], [], by kernel_rfl, by kernel_rfl, by kernel_rfl, by kernel_rfl, rfl, rfl⟩, tab_places, fun b off h => ?_⟩
  have h' : MemPlace.cell b off ∈ (MemPlace.row ⟨1, 0, none⟩ tabCells.size : List MemPlace) := by simpa using h
  have hall : (MemPlace.row ⟨1, 0, none⟩ tabCells.size : List MemPlace).all (fun p => match p with | .cell b _ => b == 1 | _ => false) = true := by decide
  have hb := List.all_eq_true.1 hall _ h'
  obtain rfl : b = 1 := by simpa using hb
  refine ⟨⟨_, _, laidWorld_row os args⟩, fun u v hc => ?_⟩
  exfalso
  simp only [World.cell?, laidWorld_row os args] at hc
  have hc' : tabCells[off]? = some (.iface u v) := by simpa using hc
  unfold tabCells at hc'
  simp at hc'
end Go.Proofs.YtgljhgjjenengaaGreatDoor
