/-
  DERIVED. GIVEN WITH THE SEED: THE CARDS: each row of YtgljhgjjenengaaGreatDoorRows.lean that lists a variable, with what it lists TIED to the program's text (the seventh form; the later family's looks); each row that meets fmt, with fmt's text TOLD by the authors' own Lean function (tested against real Go, not proved from fmt's source: count such statements apart). THE CARD IS WHAT COUNTS. Prove the row's statement (the work); the ties are given (YtgljhgjjenengaaGreatDoorTie.lean); close each card by the builder's one call (the guide's Derived/Test/ToyasCard.lean, 'card_holds'). Laid BY PROGRAM, IN A SANDBOX (cutbox-door.mjs). By AI agents, Wed Nov 11 2026. No macro, syntax, notation, axiom, sorry.
-/
import Derived.Test.YtgljhgjjenengaaGreatDoorRows
import GoSem.ClaimSeven
namespace Go.Proofs.YtgljhgjjenengaaGreatDoor
namespace Rows

/-- THE TIED CARD OF 'girderlaw18.JointsApart'. -/
def jointsApartCard : Claim7 := { stood := { row := jointsApartRow, standIns := [], harness := (true, "39ec04147c36367c4261041de0efe5469efe2e4e3f46e2f70e2bb0c7b882bc93"), looks := false }, kinds := [], alts := [], laidByText := true, laidKinds := [.data], laidTests := true, laidLooks := .later }
def JointsApartCardSaid : Prop := Claim7.holds Tryz.pinned (.plain (OpenSpec.ofChange jointsApartSpec)) jointsApartCard

/-- THE TIED CARD OF 'girderlaw18.JointsNumbers'. -/
def jointsNumbersCard : Claim7 := { stood := { row := jointsNumbersRow, standIns := [], harness := (true, "39ec04147c36367c4261041de0efe5469efe2e4e3f46e2f70e2bb0c7b882bc93"), looks := false }, kinds := [], alts := [], laidByText := true, laidKinds := [.data], laidTests := true, laidLooks := .later }
def JointsNumbersCardSaid : Prop := Claim7.holds Tryz.pinned (.plain (OpenSpec.ofChange jointsNumbersSpec)) jointsNumbersCard

/-- THE SECOND FORM's CARD OF 'girderlaw18.JointsApart'. -/
def jointsApartUptoCard : Claim7 := { stood := { row := jointsApartUptoRow, standIns := [], harness := (true, "39ec04147c36367c4261041de0efe5469efe2e4e3f46e2f70e2bb0c7b882bc93"), looks := false }, kinds := [], alts := [], laidByText := true, laidKinds := [.data], laidTests := true, laidLooks := .later }
def JointsApartUptoCardSaid : Prop := Claim7.holds Tryz.pinned (.plain (OpenSpec.upto jointsApartSpec)) jointsApartUptoCard

/-- THE SECOND FORM's CARD OF 'girderlaw18.JointsNumbers'. -/
def jointsNumbersUptoCard : Claim7 := { stood := { row := jointsNumbersUptoRow, standIns := [], harness := (true, "39ec04147c36367c4261041de0efe5469efe2e4e3f46e2f70e2bb0c7b882bc93"), looks := false }, kinds := [], alts := [], laidByText := true, laidKinds := [.data], laidTests := true, laidLooks := .later }
def JointsNumbersUptoCardSaid : Prop := Claim7.holds Tryz.pinned (.plain (OpenSpec.upto jointsNumbersSpec)) jointsNumbersUptoCard
end Rows
end Go.Proofs.YtgljhgjjenengaaGreatDoor
