/-
  NARROWER THAN 'FOR EVERY INPUT', by the rows' own cells (each row's printed sentence says how): RoundRoots: laid · RoundSums: laid · RoundProducts: laid · RoundFuses: laid · RoundEdges: laid.
  DERIVED. THE GIVEN ROWS OF THIS SEAT. 5 by the template 'for every input the law returns true; each argument reads behind the call as it read before'; 0 by the template 'total and deterministic' (their statements: YtmndoelimincdaaGreatDoorTotals.lean).
  GIVEN WITH THE SEED: the statements are not yours to turn. If you find one false, say at which input.
  Laid BY PROGRAM, IN A SANDBOX (cutbox-rows.mjs): the forced cells as the released guide's own fill.sh prints them over the translation 9fc250f667dec5a0… (all of the seat's roots in one cut). By AI agents, Wed Nov 11 2026. No macro, syntax, notation, axiom, sorry.
-/
import Derived.Test.YtmndoelimincdaaGreatDoorChecked
import GoSem.Claim
import GoSem.ClaimJoined
import GoSem.ClaimMapViews
import Derived.JoinedTies
import Derived.KernelRfl
namespace Go.Proofs.YtmndoelimincdaaGreatDoor
/- THE CELL 'sum', in the pinned program and in every row, IS THE sha256 OF THE DUMP (.gsa) THAT YtmndoelimincdaaGreatDoorProg.lean LOADS. Nothing in Lean hashes anything: it is a label: what it is worth is what the hold of that sum in a sandbox is worth. -/
noncomputable def Tryz.pinned : Pinned := { name := "ytmndoelimincdaagreatdoor", sum := "9fc250f667dec5a04011c7d11ecd39eab177a1fe8af8390db70dedb403f0f162", checked := Tryz.checked }
namespace Rows
def none {H : Type} : Left H := { results := [], args := [] }

/- WHAT THE LISTED PACKAGE-LEVEL VARIABLES READ AS WHEN THE CALL BEGINS. Each datum BY PROGRAM (the guide's laid-datum.mjs) off the statement by which the dump's own 'gosem.cut.vars' lays the variable. In a bare row this is a premise. The card (YtmndoelimincdaaGreatDoorCards.lean) ties it to the program's text. -/
def laid_math_bits_deBruijn64tab {H : Type} : DataW H := .agg [.lit (.int .u8 0), .lit (.int .u8 1), .lit (.int .u8 56), .lit (.int .u8 2), .lit (.int .u8 57), .lit (.int .u8 49), .lit (.int .u8 28), .lit (.int .u8 3), .lit (.int .u8 61), .lit (.int .u8 58), .lit (.int .u8 42), .lit (.int .u8 50), .lit (.int .u8 38), .lit (.int .u8 29), .lit (.int .u8 17), .lit (.int .u8 4), .lit (.int .u8 62), .lit (.int .u8 47), .lit (.int .u8 59), .lit (.int .u8 36), .lit (.int .u8 45), .lit (.int .u8 43), .lit (.int .u8 51), .lit (.int .u8 22), .lit (.int .u8 53), .lit (.int .u8 39), .lit (.int .u8 33), .lit (.int .u8 30), .lit (.int .u8 24), .lit (.int .u8 18), .lit (.int .u8 12), .lit (.int .u8 5), .lit (.int .u8 63), .lit (.int .u8 55), .lit (.int .u8 48), .lit (.int .u8 27), .lit (.int .u8 60), .lit (.int .u8 41), .lit (.int .u8 37), .lit (.int .u8 16), .lit (.int .u8 46), .lit (.int .u8 35), .lit (.int .u8 44), .lit (.int .u8 21), .lit (.int .u8 52), .lit (.int .u8 32), .lit (.int .u8 23), .lit (.int .u8 11), .lit (.int .u8 54), .lit (.int .u8 26), .lit (.int .u8 40), .lit (.int .u8 15), .lit (.int .u8 34), .lit (.int .u8 20), .lit (.int .u8 31), .lit (.int .u8 10), .lit (.int .u8 25), .lit (.int .u8 14), .lit (.int .u8 19), .lit (.int .u8 9), .lit (.int .u8 13), .lit (.int .u8 8), .lit (.int .u8 7), .lit (.int .u8 6)]

/-- 'girderlaw03.RoundRoots': WHATEVER THE INPUT: true; the input reads as it did. -/
def roundRootsSpec : ChangeSpec := { name := "roundRoots", fn := fun _ => fun
  | [d1, d2, d3] => { results := [.lit (.bool true)], args := [d1, d2, d3] }
  | _ => none }
def roundRootsRow : OpenClaim := { program := "ytmndoelimincdaagreatdoor", sum := "9fc250f667dec5a04011c7d11ecd39eab177a1fe8af8390db70dedb403f0f162", func := "girder/girderlaw03.RoundRoots", spec := "roundRoots", inPlace := ["math.Float64bits", "math.Float64frombits", "math.sqrt", "math.FMA"], recurses := true, named := ["math/bits.deBruijn64tab"], apart := false, laid := [("math/bits.deBruijn64tab", laid_math_bits_deBruijn64tab)] }
def RoundRootsSaid : Prop := roundRootsRow.holds Tryz.pinned (OpenSpec.ofChange roundRootsSpec)

/-- ITS FALSE NEIGHBOUR: 'it returns false'. Refute it at one input. -/
def roundRootsWrong : ChangeSpec := { name := "roundRoots", fn := fun _ => fun
  | [d1, d2, d3] => { results := [.lit (.bool false)], args := [d1, d2, d3] }
  | _ => none }
def RoundRootsWrongFalsely : Prop := roundRootsRow.holds Tryz.pinned (OpenSpec.ofChange roundRootsWrong)

/-- 'girderlaw03.RoundSums': WHATEVER THE INPUT: true; the input reads as it did. -/
def roundSumsSpec : ChangeSpec := { name := "roundSums", fn := fun _ => fun
  | [d1, d2, d3] => { results := [.lit (.bool true)], args := [d1, d2, d3] }
  | _ => none }
def roundSumsRow : OpenClaim := { program := "ytmndoelimincdaagreatdoor", sum := "9fc250f667dec5a04011c7d11ecd39eab177a1fe8af8390db70dedb403f0f162", func := "girder/girderlaw03.RoundSums", spec := "roundSums", inPlace := ["math.Float64bits", "math.Float64frombits", "math.FMA", "math.sqrt"], named := ["math/bits.deBruijn64tab"], apart := false, laid := [("math/bits.deBruijn64tab", laid_math_bits_deBruijn64tab)] }
def RoundSumsSaid : Prop := roundSumsRow.holds Tryz.pinned (OpenSpec.ofChange roundSumsSpec)

/-- ITS FALSE NEIGHBOUR: 'it returns false'. Refute it at one input. -/
def roundSumsWrong : ChangeSpec := { name := "roundSums", fn := fun _ => fun
  | [d1, d2, d3] => { results := [.lit (.bool false)], args := [d1, d2, d3] }
  | _ => none }
def RoundSumsWrongFalsely : Prop := roundSumsRow.holds Tryz.pinned (OpenSpec.ofChange roundSumsWrong)

/-- 'girderlaw03.RoundProducts': WHATEVER THE INPUT: true; the input reads as it did. -/
def roundProductsSpec : ChangeSpec := { name := "roundProducts", fn := fun _ => fun
  | [d1, d2, d3] => { results := [.lit (.bool true)], args := [d1, d2, d3] }
  | _ => none }
def roundProductsRow : OpenClaim := { program := "ytmndoelimincdaagreatdoor", sum := "9fc250f667dec5a04011c7d11ecd39eab177a1fe8af8390db70dedb403f0f162", func := "girder/girderlaw03.RoundProducts", spec := "roundProducts", inPlace := ["math.Float64bits", "math.Float64frombits", "math.FMA", "math.sqrt"], recurses := true, named := ["math/bits.deBruijn64tab"], apart := false, laid := [("math/bits.deBruijn64tab", laid_math_bits_deBruijn64tab)] }
def RoundProductsSaid : Prop := roundProductsRow.holds Tryz.pinned (OpenSpec.ofChange roundProductsSpec)

/-- ITS FALSE NEIGHBOUR: 'it returns false'. Refute it at one input. -/
def roundProductsWrong : ChangeSpec := { name := "roundProducts", fn := fun _ => fun
  | [d1, d2, d3] => { results := [.lit (.bool false)], args := [d1, d2, d3] }
  | _ => none }
def RoundProductsWrongFalsely : Prop := roundProductsRow.holds Tryz.pinned (OpenSpec.ofChange roundProductsWrong)

/-- 'girderlaw03.RoundFuses': WHATEVER THE INPUT: true; the input reads as it did. -/
def roundFusesSpec : ChangeSpec := { name := "roundFuses", fn := fun _ => fun
  | [d1, d2, d3, d4] => { results := [.lit (.bool true)], args := [d1, d2, d3, d4] }
  | _ => none }
def roundFusesRow : OpenClaim := { program := "ytmndoelimincdaagreatdoor", sum := "9fc250f667dec5a04011c7d11ecd39eab177a1fe8af8390db70dedb403f0f162", func := "girder/girderlaw03.RoundFuses", spec := "roundFuses", inPlace := ["math.Float64bits", "math.Float64frombits", "math.FMA", "math.sqrt"], recurses := true, named := ["math/bits.deBruijn64tab"], apart := false, laid := [("math/bits.deBruijn64tab", laid_math_bits_deBruijn64tab)] }
def RoundFusesSaid : Prop := roundFusesRow.holds Tryz.pinned (OpenSpec.ofChange roundFusesSpec)

/-- ITS FALSE NEIGHBOUR: 'it returns false'. Refute it at one input. -/
def roundFusesWrong : ChangeSpec := { name := "roundFuses", fn := fun _ => fun
  | [d1, d2, d3, d4] => { results := [.lit (.bool false)], args := [d1, d2, d3, d4] }
  | _ => none }
def RoundFusesWrongFalsely : Prop := roundFusesRow.holds Tryz.pinned (OpenSpec.ofChange roundFusesWrong)

/-- 'girderlaw03.RoundEdges': WHATEVER THE INPUT: true; the input reads as it did. -/
def roundEdgesSpec : ChangeSpec := { name := "roundEdges", fn := fun _ => fun
  | [] => { results := [.lit (.bool true)], args := [] }
  | _ => none }
def roundEdgesRow : OpenClaim := { program := "ytmndoelimincdaagreatdoor", sum := "9fc250f667dec5a04011c7d11ecd39eab177a1fe8af8390db70dedb403f0f162", func := "girder/girderlaw03.RoundEdges", spec := "roundEdges", inPlace := ["math.Float64frombits", "math.Float64bits", "math.sqrt", "math.FMA"], recurses := true, named := ["math/bits.deBruijn64tab"], apart := false, laid := [("math/bits.deBruijn64tab", laid_math_bits_deBruijn64tab)] }
def RoundEdgesSaid : Prop := roundEdgesRow.holds Tryz.pinned (OpenSpec.ofChange roundEdgesSpec)

/-- ITS FALSE NEIGHBOUR: 'it returns false'. Refute it at one input. -/
def roundEdgesWrong : ChangeSpec := { name := "roundEdges", fn := fun _ => fun
  | [] => { results := [.lit (.bool false)], args := [] }
  | _ => none }
def RoundEdgesWrongFalsely : Prop := roundEdgesRow.holds Tryz.pinned (OpenSpec.ofChange roundEdgesWrong)

/- THE SECOND FORM. 'bulk': how many values and letters a reading holds, each counted each time it is reached (what is shared counts as often as it is met; a slice's spare places count too). A statement '..UptoSaid' is the law's where the arguments, and the package variables that the reading takes, are together of bulk at most 1048576: NARROWER than '..Said'. Prove '..Said' where nothing that the law and all that it calls make is longer than what came in: it says more and counts as full. Else prove '..UptoSaid'. A law counts once. -/
mutual
def uptoBulk {H : Type} : DataW H → Nat
  | .lit (.string bytes) => bytes.length + 1
  | .lit _ => 1
  | .nil => 1
  | .ptr d => uptoBulk d + 1
  | .slice elems spare => uptoBulkAll elems + uptoBulkAll spare + 1
  | .agg parts => uptoBulkAll parts + 1
  | .iface _ d => uptoBulk d + 1
  | .map entries => uptoBulkEntries entries + 1
  | .held _ => 1
def uptoBulkAll {H : Type} : List (DataW H) → Nat
  | [] => 0
  | d :: r => uptoBulk d + uptoBulkAll r
def uptoBulkEntries {H : Type} : List (Lit × DataW H) → Nat
  | [] => 0
  | x :: r => uptoBulkEntry x + uptoBulkEntries r
def uptoBulkEntry {H : Type} : Lit × DataW H → Nat
  | (.string bytes, d) => bytes.length + uptoBulk d + 1
  | (_, d) => uptoBulk d + 1
 end
def uptoSmall : (H : Type) → List (DataW H) → Bool := fun _ ds => decide (uptoBulkAll ds ≤ 1048576)
def OpenSpec.upto (s : _root_.Go.ChangeSpec) : _root_.Go.OpenSpec := { _root_.Go.OpenSpec.ofChange s with cond := some uptoSmall }

/-- 'girderlaw03.RoundRoots', WHERE WHAT IT READS IS OF BULK AT MOST 1048576: true; the input reads as it did. -/
def roundRootsUptoRow : OpenClaim := { program := "ytmndoelimincdaagreatdoor", sum := "9fc250f667dec5a04011c7d11ecd39eab177a1fe8af8390db70dedb403f0f162", func := "girder/girderlaw03.RoundRoots", spec := "roundRoots", inPlace := ["math.Float64bits", "math.Float64frombits", "math.sqrt", "math.FMA"], recurses := true, named := ["math/bits.deBruijn64tab"], apart := false, laid := [("math/bits.deBruijn64tab", laid_math_bits_deBruijn64tab)], narrowed := true }
def RoundRootsUptoSaid : Prop := roundRootsUptoRow.holds Tryz.pinned (OpenSpec.upto roundRootsSpec)

/-- 'girderlaw03.RoundSums', WHERE WHAT IT READS IS OF BULK AT MOST 1048576: true; the input reads as it did. -/
def roundSumsUptoRow : OpenClaim := { program := "ytmndoelimincdaagreatdoor", sum := "9fc250f667dec5a04011c7d11ecd39eab177a1fe8af8390db70dedb403f0f162", func := "girder/girderlaw03.RoundSums", spec := "roundSums", inPlace := ["math.Float64bits", "math.Float64frombits", "math.FMA", "math.sqrt"], named := ["math/bits.deBruijn64tab"], apart := false, laid := [("math/bits.deBruijn64tab", laid_math_bits_deBruijn64tab)], narrowed := true }
def RoundSumsUptoSaid : Prop := roundSumsUptoRow.holds Tryz.pinned (OpenSpec.upto roundSumsSpec)

/-- 'girderlaw03.RoundProducts', WHERE WHAT IT READS IS OF BULK AT MOST 1048576: true; the input reads as it did. -/
def roundProductsUptoRow : OpenClaim := { program := "ytmndoelimincdaagreatdoor", sum := "9fc250f667dec5a04011c7d11ecd39eab177a1fe8af8390db70dedb403f0f162", func := "girder/girderlaw03.RoundProducts", spec := "roundProducts", inPlace := ["math.Float64bits", "math.Float64frombits", "math.FMA", "math.sqrt"], recurses := true, named := ["math/bits.deBruijn64tab"], apart := false, laid := [("math/bits.deBruijn64tab", laid_math_bits_deBruijn64tab)], narrowed := true }
def RoundProductsUptoSaid : Prop := roundProductsUptoRow.holds Tryz.pinned (OpenSpec.upto roundProductsSpec)

/-- 'girderlaw03.RoundFuses', WHERE WHAT IT READS IS OF BULK AT MOST 1048576: true; the input reads as it did. -/
def roundFusesUptoRow : OpenClaim := { program := "ytmndoelimincdaagreatdoor", sum := "9fc250f667dec5a04011c7d11ecd39eab177a1fe8af8390db70dedb403f0f162", func := "girder/girderlaw03.RoundFuses", spec := "roundFuses", inPlace := ["math.Float64bits", "math.Float64frombits", "math.FMA", "math.sqrt"], recurses := true, named := ["math/bits.deBruijn64tab"], apart := false, laid := [("math/bits.deBruijn64tab", laid_math_bits_deBruijn64tab)], narrowed := true }
def RoundFusesUptoSaid : Prop := roundFusesUptoRow.holds Tryz.pinned (OpenSpec.upto roundFusesSpec)

/-- 'girderlaw03.RoundEdges', WHERE WHAT IT READS IS OF BULK AT MOST 1048576: true; the input reads as it did. -/
def roundEdgesUptoRow : OpenClaim := { program := "ytmndoelimincdaagreatdoor", sum := "9fc250f667dec5a04011c7d11ecd39eab177a1fe8af8390db70dedb403f0f162", func := "girder/girderlaw03.RoundEdges", spec := "roundEdges", inPlace := ["math.Float64frombits", "math.Float64bits", "math.sqrt", "math.FMA"], recurses := true, named := ["math/bits.deBruijn64tab"], apart := false, laid := [("math/bits.deBruijn64tab", laid_math_bits_deBruijn64tab)], narrowed := true }
def RoundEdgesUptoSaid : Prop := roundEdgesUptoRow.holds Tryz.pinned (OpenSpec.upto roundEdgesSpec)

end Rows
end Go.Proofs.YtmndoelimincdaaGreatDoor
