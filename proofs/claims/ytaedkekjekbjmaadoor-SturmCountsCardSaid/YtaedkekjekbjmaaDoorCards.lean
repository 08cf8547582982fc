/-
  DERIVED. GIVEN WITH THE SEED: THE CARDS: each row of YtaedkekjekbjmaaDoorRows.lean that lists a variable, with what it lists TIED to the program's text (the seventh form; the later family's looks); each row that meets fmt, with fmt's text TOLD by the authors' own Lean function (tested against real Go, not proved from fmt's source: count such statements apart). THE CARD IS WHAT COUNTS. Prove the row's statement (the work); the ties are given (YtaedkekjekbjmaaDoorTie.lean); close each card by the builder's one call (the guide's Derived/Test/ToyasCard.lean, 'card_holds'). Laid BY PROGRAM, IN A SANDBOX (cutbox-door.mjs). By AI agents, Wed Nov 11 2026. No macro, syntax, notation, axiom, sorry.
-/
import Derived.Test.YtaedkekjekbjmaaDoorRows
import GoSem.ClaimSeven
namespace Go.Proofs.YtaedkekjekbjmaaDoor
namespace Rows

/-- THE TIED CARD OF 'girderlaw17.SturmCounts'. -/
def sturmCountsCard : Claim7 := { stood := { row := sturmCountsRow, standIns := [], harness := (true, "743440613746b17a0477da9cd8a4a7f1834004f2a4ce711e11695f4f2dfaed67"), looks := false }, kinds := [], alts := [], laidByText := true, laidKinds := [.data], laidTests := true, laidLooks := .later }
def SturmCountsCardSaid : Prop := Claim7.holds Tryd.pinned (.plain (OpenSpec.ofChange sturmCountsSpec)) sturmCountsCard

/-- THE TIED CARD OF 'girderlaw17.SturmLeasts'. -/
def sturmLeastsCard : Claim7 := { stood := { row := sturmLeastsRow, standIns := [], harness := (true, "743440613746b17a0477da9cd8a4a7f1834004f2a4ce711e11695f4f2dfaed67"), looks := false }, kinds := [], alts := [], laidByText := true, laidKinds := [.data], laidTests := true, laidLooks := .later }
def SturmLeastsCardSaid : Prop := Claim7.holds Tryd.pinned (.plain (OpenSpec.ofChange sturmLeastsSpec)) sturmLeastsCard

/-- THE SECOND FORM's CARD OF 'girderlaw17.SturmCounts'. -/
def sturmCountsUptoCard : Claim7 := { stood := { row := sturmCountsUptoRow, standIns := [], harness := (true, "743440613746b17a0477da9cd8a4a7f1834004f2a4ce711e11695f4f2dfaed67"), looks := false }, kinds := [], alts := [], laidByText := true, laidKinds := [.data], laidTests := true, laidLooks := .later }
def SturmCountsUptoCardSaid : Prop := Claim7.holds Tryd.pinned (.plain (OpenSpec.upto sturmCountsSpec)) sturmCountsUptoCard

/-- THE SECOND FORM's CARD OF 'girderlaw17.SturmLeasts'. -/
def sturmLeastsUptoCard : Claim7 := { stood := { row := sturmLeastsUptoRow, standIns := [], harness := (true, "743440613746b17a0477da9cd8a4a7f1834004f2a4ce711e11695f4f2dfaed67"), looks := false }, kinds := [], alts := [], laidByText := true, laidKinds := [.data], laidTests := true, laidLooks := .later }
def SturmLeastsUptoCardSaid : Prop := Claim7.holds Tryd.pinned (.plain (OpenSpec.upto sturmLeastsSpec)) sturmLeastsUptoCard
end Rows
end Go.Proofs.YtaedkekjekbjmaaDoor
