/-
  DERIVED. GIVEN WITH THE SEED: THE CARDS: each row of YtmndoelimincdaaGreatDoorRows.lean that lists a variable, with what it lists TIED to the program's text (the seventh form; the later family's looks); each row that meets fmt, with fmt's text TOLD by the authors' own Lean function (tested against real Go, not proved from fmt's source: count such statements apart). THE CARD IS WHAT COUNTS. Prove the row's statement (the work); the ties are given (YtmndoelimincdaaGreatDoorTie.lean); close each card by the builder's one call (the guide's Derived/Test/ToyasCard.lean, 'card_holds'). Laid BY PROGRAM, IN A SANDBOX (cutbox-door.mjs). By AI agents, Wed Nov 11 2026. No macro, syntax, notation, axiom, sorry.
-/
import Derived.Test.YtmndoelimincdaaGreatDoorRows
import GoSem.ClaimSeven
namespace Go.Proofs.YtmndoelimincdaaGreatDoor
namespace Rows

/-- THE TIED CARD OF 'girderlaw03.RoundRoots'. -/
def roundRootsCard : Claim7 := { stood := { row := roundRootsRow, standIns := [], harness := (true, "fb40ae73d1bf58e6de08656d68d8e2c5add5aa66b6b606abb96a4ab52673d1b8"), looks := false }, kinds := [], alts := [], laidByText := true, laidKinds := [.data], laidTests := true, laidLooks := .later }
def RoundRootsCardSaid : Prop := Claim7.holds Tryz.pinned (.plain (OpenSpec.ofChange roundRootsSpec)) roundRootsCard

/-- THE TIED CARD OF 'girderlaw03.RoundSums'. -/
def roundSumsCard : Claim7 := { stood := { row := roundSumsRow, standIns := [], harness := (true, "fb40ae73d1bf58e6de08656d68d8e2c5add5aa66b6b606abb96a4ab52673d1b8"), looks := false }, kinds := [], alts := [], laidByText := true, laidKinds := [.data], laidTests := true, laidLooks := .later }
def RoundSumsCardSaid : Prop := Claim7.holds Tryz.pinned (.plain (OpenSpec.ofChange roundSumsSpec)) roundSumsCard

/-- THE TIED CARD OF 'girderlaw03.RoundProducts'. -/
def roundProductsCard : Claim7 := { stood := { row := roundProductsRow, standIns := [], harness := (true, "fb40ae73d1bf58e6de08656d68d8e2c5add5aa66b6b606abb96a4ab52673d1b8"), looks := false }, kinds := [], alts := [], laidByText := true, laidKinds := [.data], laidTests := true, laidLooks := .later }
def RoundProductsCardSaid : Prop := Claim7.holds Tryz.pinned (.plain (OpenSpec.ofChange roundProductsSpec)) roundProductsCard

/-- THE TIED CARD OF 'girderlaw03.RoundFuses'. -/
def roundFusesCard : Claim7 := { stood := { row := roundFusesRow, standIns := [], harness := (true, "fb40ae73d1bf58e6de08656d68d8e2c5add5aa66b6b606abb96a4ab52673d1b8"), looks := false }, kinds := [], alts := [], laidByText := true, laidKinds := [.data], laidTests := true, laidLooks := .later }
def RoundFusesCardSaid : Prop := Claim7.holds Tryz.pinned (.plain (OpenSpec.ofChange roundFusesSpec)) roundFusesCard

/-- THE TIED CARD OF 'girderlaw03.RoundEdges'. -/
def roundEdgesCard : Claim7 := { stood := { row := roundEdgesRow, standIns := [], harness := (true, "fb40ae73d1bf58e6de08656d68d8e2c5add5aa66b6b606abb96a4ab52673d1b8"), looks := false }, kinds := [], alts := [], laidByText := true, laidKinds := [.data], laidTests := true, laidLooks := .later }
def RoundEdgesCardSaid : Prop := Claim7.holds Tryz.pinned (.plain (OpenSpec.ofChange roundEdgesSpec)) roundEdgesCard

/-- THE SECOND FORM's CARD OF 'girderlaw03.RoundRoots'. -/
def roundRootsUptoCard : Claim7 := { stood := { row := roundRootsUptoRow, standIns := [], harness := (true, "fb40ae73d1bf58e6de08656d68d8e2c5add5aa66b6b606abb96a4ab52673d1b8"), looks := false }, kinds := [], alts := [], laidByText := true, laidKinds := [.data], laidTests := true, laidLooks := .later }
def RoundRootsUptoCardSaid : Prop := Claim7.holds Tryz.pinned (.plain (OpenSpec.upto roundRootsSpec)) roundRootsUptoCard

/-- THE SECOND FORM's CARD OF 'girderlaw03.RoundSums'. -/
def roundSumsUptoCard : Claim7 := { stood := { row := roundSumsUptoRow, standIns := [], harness := (true, "fb40ae73d1bf58e6de08656d68d8e2c5add5aa66b6b606abb96a4ab52673d1b8"), looks := false }, kinds := [], alts := [], laidByText := true, laidKinds := [.data], laidTests := true, laidLooks := .later }
def RoundSumsUptoCardSaid : Prop := Claim7.holds Tryz.pinned (.plain (OpenSpec.upto roundSumsSpec)) roundSumsUptoCard

/-- THE SECOND FORM's CARD OF 'girderlaw03.RoundProducts'. -/
def roundProductsUptoCard : Claim7 := { stood := { row := roundProductsUptoRow, standIns := [], harness := (true, "fb40ae73d1bf58e6de08656d68d8e2c5add5aa66b6b606abb96a4ab52673d1b8"), looks := false }, kinds := [], alts := [], laidByText := true, laidKinds := [.data], laidTests := true, laidLooks := .later }
def RoundProductsUptoCardSaid : Prop := Claim7.holds Tryz.pinned (.plain (OpenSpec.upto roundProductsSpec)) roundProductsUptoCard

/-- THE SECOND FORM's CARD OF 'girderlaw03.RoundFuses'. -/
def roundFusesUptoCard : Claim7 := { stood := { row := roundFusesUptoRow, standIns := [], harness := (true, "fb40ae73d1bf58e6de08656d68d8e2c5add5aa66b6b606abb96a4ab52673d1b8"), looks := false }, kinds := [], alts := [], laidByText := true, laidKinds := [.data], laidTests := true, laidLooks := .later }
def RoundFusesUptoCardSaid : Prop := Claim7.holds Tryz.pinned (.plain (OpenSpec.upto roundFusesSpec)) roundFusesUptoCard

/-- THE SECOND FORM's CARD OF 'girderlaw03.RoundEdges'. -/
def roundEdgesUptoCard : Claim7 := { stood := { row := roundEdgesUptoRow, standIns := [], harness := (true, "fb40ae73d1bf58e6de08656d68d8e2c5add5aa66b6b606abb96a4ab52673d1b8"), looks := false }, kinds := [], alts := [], laidByText := true, laidKinds := [.data], laidTests := true, laidLooks := .later }
def RoundEdgesUptoCardSaid : Prop := Claim7.holds Tryz.pinned (.plain (OpenSpec.upto roundEdgesSpec)) roundEdgesUptoCard
end Rows
end Go.Proofs.YtmndoelimincdaaGreatDoor
