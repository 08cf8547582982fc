/-
  NARROWER THAN 'FOR EVERY INPUT', by the rows' own cells (each row's printed sentence says how): SturmCounts: laid · SturmChords: laid · SturmLeasts: laid · SturmRises: laid · SturmParts: laid · SturmTurned: laid · SturmBetween: laid · SturmGives: laid.
  DERIVED. THE GIVEN ROWS OF THIS SEAT. 8 by the template 'for every input the law returns true; each argument reads behind the call as it read before'; 0 by the template 'total and deterministic' (their statements: YtfjiojdnbdfenaaDoorTotals.lean).
  GIVEN WITH THE SEED: the statements are not yours to turn. If you find one false, say at which input.
  Laid BY PROGRAM, IN A SANDBOX (cutbox-rows.mjs): the forced cells as the released guide's own fill.sh prints them over the translation 5537c26c6ab05504… (all of the seat's roots in one cut). By AI agents, Wed Nov 11 2026. No macro, syntax, notation, axiom, sorry.
-/
import Derived.Test.YtfjiojdnbdfenaaDoorChecked
import GoSem.Claim
import GoSem.ClaimJoined
import GoSem.ClaimMapViews
import Derived.JoinedTies
import Derived.KernelRfl
namespace Go.Proofs.YtfjiojdnbdfenaaDoor
/- THE CELL 'sum', in the pinned program and in every row, IS THE sha256 OF THE DUMP (.gsa) THAT YtfjiojdnbdfenaaDoorProg.lean LOADS. Nothing in Lean hashes anything: it is a label: what it is worth is what the hold of that sum in a sandbox is worth. -/
noncomputable def Tryd.pinned : Pinned := { name := "ytfjiojdnbdfenaadoor", sum := "5537c26c6ab055044f73477d13f2764838bbf9161e1acdf46443cc9e6cb98a70", checked := Tryd.checked }
namespace Rows
def none {H : Type} : Left H := { results := [], args := [] }

/- WHAT THE LISTED PACKAGE-LEVEL VARIABLES READ AS WHEN THE CALL BEGINS. Each datum BY PROGRAM (the guide's laid-datum.mjs) off the statement by which the dump's own 'gosem.cut.vars' lays the variable. In a bare row this is a premise. The card (YtfjiojdnbdfenaaDoorCards.lean) ties it to the program's text. -/
def laid_math_bits_deBruijn64tab {H : Type} : DataW H := .agg [.lit (.int .u8 0), .lit (.int .u8 1), .lit (.int .u8 56), .lit (.int .u8 2), .lit (.int .u8 57), .lit (.int .u8 49), .lit (.int .u8 28), .lit (.int .u8 3), .lit (.int .u8 61), .lit (.int .u8 58), .lit (.int .u8 42), .lit (.int .u8 50), .lit (.int .u8 38), .lit (.int .u8 29), .lit (.int .u8 17), .lit (.int .u8 4), .lit (.int .u8 62), .lit (.int .u8 47), .lit (.int .u8 59), .lit (.int .u8 36), .lit (.int .u8 45), .lit (.int .u8 43), .lit (.int .u8 51), .lit (.int .u8 22), .lit (.int .u8 53), .lit (.int .u8 39), .lit (.int .u8 33), .lit (.int .u8 30), .lit (.int .u8 24), .lit (.int .u8 18), .lit (.int .u8 12), .lit (.int .u8 5), .lit (.int .u8 63), .lit (.int .u8 55), .lit (.int .u8 48), .lit (.int .u8 27), .lit (.int .u8 60), .lit (.int .u8 41), .lit (.int .u8 37), .lit (.int .u8 16), .lit (.int .u8 46), .lit (.int .u8 35), .lit (.int .u8 44), .lit (.int .u8 21), .lit (.int .u8 52), .lit (.int .u8 32), .lit (.int .u8 23), .lit (.int .u8 11), .lit (.int .u8 54), .lit (.int .u8 26), .lit (.int .u8 40), .lit (.int .u8 15), .lit (.int .u8 34), .lit (.int .u8 20), .lit (.int .u8 31), .lit (.int .u8 10), .lit (.int .u8 25), .lit (.int .u8 14), .lit (.int .u8 19), .lit (.int .u8 9), .lit (.int .u8 13), .lit (.int .u8 8), .lit (.int .u8 7), .lit (.int .u8 6)]

/-- 'girderlaw17.SturmCounts': WHATEVER THE INPUT: true; the input reads as it did. -/
def sturmCountsSpec : ChangeSpec := { name := "sturmCounts", fn := fun _ => fun
  | [d1, d2] => { results := [.lit (.bool true)], args := [d1, d2] }
  | _ => none }
def sturmCountsRow : OpenClaim := { program := "ytfjiojdnbdfenaadoor", sum := "5537c26c6ab055044f73477d13f2764838bbf9161e1acdf46443cc9e6cb98a70", func := "girder/girderlaw17.SturmCounts", spec := "sturmCounts", inPlace := ["math.Float64bits", "math.Float64frombits"], unfollowed := true, recurses := true, named := ["math/bits.deBruijn64tab"], apart := false, laid := [("math/bits.deBruijn64tab", laid_math_bits_deBruijn64tab)] }
def SturmCountsSaid : Prop := sturmCountsRow.holds Tryd.pinned (OpenSpec.ofChange sturmCountsSpec)

/-- ITS FALSE NEIGHBOUR: 'it returns false'. Refute it at one input. -/
def sturmCountsWrong : ChangeSpec := { name := "sturmCounts", fn := fun _ => fun
  | [d1, d2] => { results := [.lit (.bool false)], args := [d1, d2] }
  | _ => none }
def SturmCountsWrongFalsely : Prop := sturmCountsRow.holds Tryd.pinned (OpenSpec.ofChange sturmCountsWrong)

/-- 'girderlaw17.SturmChords': WHATEVER THE INPUT: true; the input reads as it did. -/
def sturmChordsSpec : ChangeSpec := { name := "sturmChords", fn := fun _ => fun
  | [d1, d2, d3] => { results := [.lit (.bool true)], args := [d1, d2, d3] }
  | _ => none }
def sturmChordsRow : OpenClaim := { program := "ytfjiojdnbdfenaadoor", sum := "5537c26c6ab055044f73477d13f2764838bbf9161e1acdf46443cc9e6cb98a70", func := "girder/girderlaw17.SturmChords", spec := "sturmChords", inPlace := ["math.Float64bits", "math.Float64frombits"], unfollowed := true, recurses := true, named := ["math/bits.deBruijn64tab"], apart := false, laid := [("math/bits.deBruijn64tab", laid_math_bits_deBruijn64tab)] }
def SturmChordsSaid : Prop := sturmChordsRow.holds Tryd.pinned (OpenSpec.ofChange sturmChordsSpec)

/-- ITS FALSE NEIGHBOUR: 'it returns false'. Refute it at one input. -/
def sturmChordsWrong : ChangeSpec := { name := "sturmChords", fn := fun _ => fun
  | [d1, d2, d3] => { results := [.lit (.bool false)], args := [d1, d2, d3] }
  | _ => none }
def SturmChordsWrongFalsely : Prop := sturmChordsRow.holds Tryd.pinned (OpenSpec.ofChange sturmChordsWrong)

/-- 'girderlaw17.SturmLeasts': WHATEVER THE INPUT: true; the input reads as it did. -/
def sturmLeastsSpec : ChangeSpec := { name := "sturmLeasts", fn := fun _ => fun
  | [d1, d2, d3] => { results := [.lit (.bool true)], args := [d1, d2, d3] }
  | _ => none }
def sturmLeastsRow : OpenClaim := { program := "ytfjiojdnbdfenaadoor", sum := "5537c26c6ab055044f73477d13f2764838bbf9161e1acdf46443cc9e6cb98a70", func := "girder/girderlaw17.SturmLeasts", spec := "sturmLeasts", inPlace := ["math.Float64bits", "math.Float64frombits"], unfollowed := true, recurses := true, named := ["math/bits.deBruijn64tab"], apart := false, laid := [("math/bits.deBruijn64tab", laid_math_bits_deBruijn64tab)] }
def SturmLeastsSaid : Prop := sturmLeastsRow.holds Tryd.pinned (OpenSpec.ofChange sturmLeastsSpec)

/-- ITS FALSE NEIGHBOUR: 'it returns false'. Refute it at one input. -/
def sturmLeastsWrong : ChangeSpec := { name := "sturmLeasts", fn := fun _ => fun
  | [d1, d2, d3] => { results := [.lit (.bool false)], args := [d1, d2, d3] }
  | _ => none }
def SturmLeastsWrongFalsely : Prop := sturmLeastsRow.holds Tryd.pinned (OpenSpec.ofChange sturmLeastsWrong)

/-- 'girderlaw17.SturmRises': WHATEVER THE INPUT: true; the input reads as it did. -/
def sturmRisesSpec : ChangeSpec := { name := "sturmRises", fn := fun _ => fun
  | [d1, d2, d3] => { results := [.lit (.bool true)], args := [d1, d2, d3] }
  | _ => none }
def sturmRisesRow : OpenClaim := { program := "ytfjiojdnbdfenaadoor", sum := "5537c26c6ab055044f73477d13f2764838bbf9161e1acdf46443cc9e6cb98a70", func := "girder/girderlaw17.SturmRises", spec := "sturmRises", inPlace := ["math.Float64bits", "math.Float64frombits"], unfollowed := true, recurses := true, named := ["math/bits.deBruijn64tab"], apart := false, laid := [("math/bits.deBruijn64tab", laid_math_bits_deBruijn64tab)] }
def SturmRisesSaid : Prop := sturmRisesRow.holds Tryd.pinned (OpenSpec.ofChange sturmRisesSpec)

/-- ITS FALSE NEIGHBOUR: 'it returns false'. Refute it at one input. -/
def sturmRisesWrong : ChangeSpec := { name := "sturmRises", fn := fun _ => fun
  | [d1, d2, d3] => { results := [.lit (.bool false)], args := [d1, d2, d3] }
  | _ => none }
def SturmRisesWrongFalsely : Prop := sturmRisesRow.holds Tryd.pinned (OpenSpec.ofChange sturmRisesWrong)

/-- 'girderlaw17.SturmParts': WHATEVER THE INPUT: true; the input reads as it did. -/
def sturmPartsSpec : ChangeSpec := { name := "sturmParts", fn := fun _ => fun
  | [d1, d2, d3] => { results := [.lit (.bool true)], args := [d1, d2, d3] }
  | _ => none }
def sturmPartsRow : OpenClaim := { program := "ytfjiojdnbdfenaadoor", sum := "5537c26c6ab055044f73477d13f2764838bbf9161e1acdf46443cc9e6cb98a70", func := "girder/girderlaw17.SturmParts", spec := "sturmParts", inPlace := ["math.Float64bits", "math.Float64frombits"], unfollowed := true, recurses := true, named := ["math/bits.deBruijn64tab"], apart := false, laid := [("math/bits.deBruijn64tab", laid_math_bits_deBruijn64tab)] }
def SturmPartsSaid : Prop := sturmPartsRow.holds Tryd.pinned (OpenSpec.ofChange sturmPartsSpec)

/-- ITS FALSE NEIGHBOUR: 'it returns false'. Refute it at one input. -/
def sturmPartsWrong : ChangeSpec := { name := "sturmParts", fn := fun _ => fun
  | [d1, d2, d3] => { results := [.lit (.bool false)], args := [d1, d2, d3] }
  | _ => none }
def SturmPartsWrongFalsely : Prop := sturmPartsRow.holds Tryd.pinned (OpenSpec.ofChange sturmPartsWrong)

/-- 'girderlaw17.SturmTurned': WHATEVER THE INPUT: true; the input reads as it did. -/
def sturmTurnedSpec : ChangeSpec := { name := "sturmTurned", fn := fun _ => fun
  | [d1, d2, d3] => { results := [.lit (.bool true)], args := [d1, d2, d3] }
  | _ => none }
def sturmTurnedRow : OpenClaim := { program := "ytfjiojdnbdfenaadoor", sum := "5537c26c6ab055044f73477d13f2764838bbf9161e1acdf46443cc9e6cb98a70", func := "girder/girderlaw17.SturmTurned", spec := "sturmTurned", inPlace := ["math.Float64bits", "math.Float64frombits"], unfollowed := true, recurses := true, named := ["math/bits.deBruijn64tab"], apart := false, laid := [("math/bits.deBruijn64tab", laid_math_bits_deBruijn64tab)] }
def SturmTurnedSaid : Prop := sturmTurnedRow.holds Tryd.pinned (OpenSpec.ofChange sturmTurnedSpec)

/-- ITS FALSE NEIGHBOUR: 'it returns false'. Refute it at one input. -/
def sturmTurnedWrong : ChangeSpec := { name := "sturmTurned", fn := fun _ => fun
  | [d1, d2, d3] => { results := [.lit (.bool false)], args := [d1, d2, d3] }
  | _ => none }
def SturmTurnedWrongFalsely : Prop := sturmTurnedRow.holds Tryd.pinned (OpenSpec.ofChange sturmTurnedWrong)

/-- 'girderlaw17.SturmBetween': WHATEVER THE INPUT: true; the input reads as it did. -/
def sturmBetweenSpec : ChangeSpec := { name := "sturmBetween", fn := fun _ => fun
  | [d1, d2] => { results := [.lit (.bool true)], args := [d1, d2] }
  | _ => none }
def sturmBetweenRow : OpenClaim := { program := "ytfjiojdnbdfenaadoor", sum := "5537c26c6ab055044f73477d13f2764838bbf9161e1acdf46443cc9e6cb98a70", func := "girder/girderlaw17.SturmBetween", spec := "sturmBetween", inPlace := ["math.Float64bits", "math.Float64frombits"], unfollowed := true, recurses := true, named := ["math/bits.deBruijn64tab"], apart := false, laid := [("math/bits.deBruijn64tab", laid_math_bits_deBruijn64tab)] }
def SturmBetweenSaid : Prop := sturmBetweenRow.holds Tryd.pinned (OpenSpec.ofChange sturmBetweenSpec)

/-- ITS FALSE NEIGHBOUR: 'it returns false'. Refute it at one input. -/
def sturmBetweenWrong : ChangeSpec := { name := "sturmBetween", fn := fun _ => fun
  | [d1, d2] => { results := [.lit (.bool false)], args := [d1, d2] }
  | _ => none }
def SturmBetweenWrongFalsely : Prop := sturmBetweenRow.holds Tryd.pinned (OpenSpec.ofChange sturmBetweenWrong)

/-- 'girderlaw17.SturmGives': WHATEVER THE INPUT: true; the input reads as it did. -/
def sturmGivesSpec : ChangeSpec := { name := "sturmGives", fn := fun _ => fun
  | [d1, d2, d3] => { results := [.lit (.bool true)], args := [d1, d2, d3] }
  | _ => none }
def sturmGivesRow : OpenClaim := { program := "ytfjiojdnbdfenaadoor", sum := "5537c26c6ab055044f73477d13f2764838bbf9161e1acdf46443cc9e6cb98a70", func := "girder/girderlaw17.SturmGives", spec := "sturmGives", inPlace := ["math.Float64bits", "math.Float64frombits"], unfollowed := true, recurses := true, named := ["math/bits.deBruijn64tab"], apart := false, laid := [("math/bits.deBruijn64tab", laid_math_bits_deBruijn64tab)] }
def SturmGivesSaid : Prop := sturmGivesRow.holds Tryd.pinned (OpenSpec.ofChange sturmGivesSpec)

/-- ITS FALSE NEIGHBOUR: 'it returns false'. Refute it at one input. -/
def sturmGivesWrong : ChangeSpec := { name := "sturmGives", fn := fun _ => fun
  | [d1, d2, d3] => { results := [.lit (.bool false)], args := [d1, d2, d3] }
  | _ => none }
def SturmGivesWrongFalsely : Prop := sturmGivesRow.holds Tryd.pinned (OpenSpec.ofChange sturmGivesWrong)

/- THE SECOND FORM. 'bulk': how many values and letters a reading holds, each counted each time it is reached (what is shared counts as often as it is met; a slice's spare places count too). A statement '..UptoSaid' is the law's where the arguments, and the package variables that the reading takes, are together of bulk at most 1048576: NARROWER than '..Said'. Prove '..Said' where nothing that the law and all that it calls make is longer than what came in: it says more and counts as full. Else prove '..UptoSaid'. A law counts once. -/
mutual
def uptoBulk {H : Type} : DataW H → Nat
  | .lit (.string bytes) => bytes.length + 1
  | .lit _ => 1
  | .nil => 1
  | .ptr d => uptoBulk d + 1
  | .slice elems spare => uptoBulkAll elems + uptoBulkAll spare + 1
  | .agg parts => uptoBulkAll parts + 1
  | .iface _ d => uptoBulk d + 1
  | .map entries => uptoBulkEntries entries + 1
  | .held _ => 1
def uptoBulkAll {H : Type} : List (DataW H) → Nat
  | [] => 0
  | d :: r => uptoBulk d + uptoBulkAll r
def uptoBulkEntries {H : Type} : List (Lit × DataW H) → Nat
  | [] => 0
  | x :: r => uptoBulkEntry x + uptoBulkEntries r
def uptoBulkEntry {H : Type} : Lit × DataW H → Nat
  | (.string bytes, d) => bytes.length + uptoBulk d + 1
  | (_, d) => uptoBulk d + 1
 end
def uptoSmall : (H : Type) → List (DataW H) → Bool := fun _ ds => decide (uptoBulkAll ds ≤ 1048576)
def OpenSpec.upto (s : _root_.Go.ChangeSpec) : _root_.Go.OpenSpec := { _root_.Go.OpenSpec.ofChange s with cond := some uptoSmall }

/-- 'girderlaw17.SturmCounts', WHERE WHAT IT READS IS OF BULK AT MOST 1048576: true; the input reads as it did. -/
def sturmCountsUptoRow : OpenClaim := { program := "ytfjiojdnbdfenaadoor", sum := "5537c26c6ab055044f73477d13f2764838bbf9161e1acdf46443cc9e6cb98a70", func := "girder/girderlaw17.SturmCounts", spec := "sturmCounts", inPlace := ["math.Float64bits", "math.Float64frombits"], unfollowed := true, recurses := true, named := ["math/bits.deBruijn64tab"], apart := false, laid := [("math/bits.deBruijn64tab", laid_math_bits_deBruijn64tab)], narrowed := true }
def SturmCountsUptoSaid : Prop := sturmCountsUptoRow.holds Tryd.pinned (OpenSpec.upto sturmCountsSpec)

/-- 'girderlaw17.SturmChords', WHERE WHAT IT READS IS OF BULK AT MOST 1048576: true; the input reads as it did. -/
def sturmChordsUptoRow : OpenClaim := { program := "ytfjiojdnbdfenaadoor", sum := "5537c26c6ab055044f73477d13f2764838bbf9161e1acdf46443cc9e6cb98a70", func := "girder/girderlaw17.SturmChords", spec := "sturmChords", inPlace := ["math.Float64bits", "math.Float64frombits"], unfollowed := true, recurses := true, named := ["math/bits.deBruijn64tab"], apart := false, laid := [("math/bits.deBruijn64tab", laid_math_bits_deBruijn64tab)], narrowed := true }
def SturmChordsUptoSaid : Prop := sturmChordsUptoRow.holds Tryd.pinned (OpenSpec.upto sturmChordsSpec)

/-- 'girderlaw17.SturmLeasts', WHERE WHAT IT READS IS OF BULK AT MOST 1048576: true; the input reads as it did. -/
def sturmLeastsUptoRow : OpenClaim := { program := "ytfjiojdnbdfenaadoor", sum := "5537c26c6ab055044f73477d13f2764838bbf9161e1acdf46443cc9e6cb98a70", func := "girder/girderlaw17.SturmLeasts", spec := "sturmLeasts", inPlace := ["math.Float64bits", "math.Float64frombits"], unfollowed := true, recurses := true, named := ["math/bits.deBruijn64tab"], apart := false, laid := [("math/bits.deBruijn64tab", laid_math_bits_deBruijn64tab)], narrowed := true }
def SturmLeastsUptoSaid : Prop := sturmLeastsUptoRow.holds Tryd.pinned (OpenSpec.upto sturmLeastsSpec)

/-- 'girderlaw17.SturmRises', WHERE WHAT IT READS IS OF BULK AT MOST 1048576: true; the input reads as it did. -/
def sturmRisesUptoRow : OpenClaim := { program := "ytfjiojdnbdfenaadoor", sum := "5537c26c6ab055044f73477d13f2764838bbf9161e1acdf46443cc9e6cb98a70", func := "girder/girderlaw17.SturmRises", spec := "sturmRises", inPlace := ["math.Float64bits", "math.Float64frombits"], unfollowed := true, recurses := true, named := ["math/bits.deBruijn64tab"], apart := false, laid := [("math/bits.deBruijn64tab", laid_math_bits_deBruijn64tab)], narrowed := true }
def SturmRisesUptoSaid : Prop := sturmRisesUptoRow.holds Tryd.pinned (OpenSpec.upto sturmRisesSpec)

/-- 'girderlaw17.SturmParts', WHERE WHAT IT READS IS OF BULK AT MOST 1048576: true; the input reads as it did. -/
def sturmPartsUptoRow : OpenClaim := { program := "ytfjiojdnbdfenaadoor", sum := "5537c26c6ab055044f73477d13f2764838bbf9161e1acdf46443cc9e6cb98a70", func := "girder/girderlaw17.SturmParts", spec := "sturmParts", inPlace := ["math.Float64bits", "math.Float64frombits"], unfollowed := true, recurses := true, named := ["math/bits.deBruijn64tab"], apart := false, laid := [("math/bits.deBruijn64tab", laid_math_bits_deBruijn64tab)], narrowed := true }
def SturmPartsUptoSaid : Prop := sturmPartsUptoRow.holds Tryd.pinned (OpenSpec.upto sturmPartsSpec)

/-- 'girderlaw17.SturmTurned', WHERE WHAT IT READS IS OF BULK AT MOST 1048576: true; the input reads as it did. -/
def sturmTurnedUptoRow : OpenClaim := { program := "ytfjiojdnbdfenaadoor", sum := "5537c26c6ab055044f73477d13f2764838bbf9161e1acdf46443cc9e6cb98a70", func := "girder/girderlaw17.SturmTurned", spec := "sturmTurned", inPlace := ["math.Float64bits", "math.Float64frombits"], unfollowed := true, recurses := true, named := ["math/bits.deBruijn64tab"], apart := false, laid := [("math/bits.deBruijn64tab", laid_math_bits_deBruijn64tab)], narrowed := true }
def SturmTurnedUptoSaid : Prop := sturmTurnedUptoRow.holds Tryd.pinned (OpenSpec.upto sturmTurnedSpec)

/-- 'girderlaw17.SturmBetween', WHERE WHAT IT READS IS OF BULK AT MOST 1048576: true; the input reads as it did. -/
def sturmBetweenUptoRow : OpenClaim := { program := "ytfjiojdnbdfenaadoor", sum := "5537c26c6ab055044f73477d13f2764838bbf9161e1acdf46443cc9e6cb98a70", func := "girder/girderlaw17.SturmBetween", spec := "sturmBetween", inPlace := ["math.Float64bits", "math.Float64frombits"], unfollowed := true, recurses := true, named := ["math/bits.deBruijn64tab"], apart := false, laid := [("math/bits.deBruijn64tab", laid_math_bits_deBruijn64tab)], narrowed := true }
def SturmBetweenUptoSaid : Prop := sturmBetweenUptoRow.holds Tryd.pinned (OpenSpec.upto sturmBetweenSpec)

/-- 'girderlaw17.SturmGives', WHERE WHAT IT READS IS OF BULK AT MOST 1048576: true; the input reads as it did. -/
def sturmGivesUptoRow : OpenClaim := { program := "ytfjiojdnbdfenaadoor", sum := "5537c26c6ab055044f73477d13f2764838bbf9161e1acdf46443cc9e6cb98a70", func := "girder/girderlaw17.SturmGives", spec := "sturmGives", inPlace := ["math.Float64bits", "math.Float64frombits"], unfollowed := true, recurses := true, named := ["math/bits.deBruijn64tab"], apart := false, laid := [("math/bits.deBruijn64tab", laid_math_bits_deBruijn64tab)], narrowed := true }
def SturmGivesUptoSaid : Prop := sturmGivesUptoRow.holds Tryd.pinned (OpenSpec.upto sturmGivesSpec)

end Rows
end Go.Proofs.YtfjiojdnbdfenaaDoor
