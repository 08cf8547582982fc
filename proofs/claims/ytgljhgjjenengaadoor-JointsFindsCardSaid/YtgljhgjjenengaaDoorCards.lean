/-
  DERIVED. GIVEN WITH THE SEED: THE CARDS: each row of YtgljhgjjenengaaDoorRows.lean that lists a variable, with what it lists TIED to the program's text (the seventh form; the later family's looks); each row that meets fmt, with fmt's text TOLD by the authors' own Lean function (tested against real Go, not proved from fmt's source: count such statements apart). THE CARD IS WHAT COUNTS. Prove the row's statement (the work); the ties are given (YtgljhgjjenengaaDoorTie.lean); close each card by the builder's one call (the guide's Derived/Test/ToyasCard.lean, 'card_holds'). Laid BY PROGRAM, IN A SANDBOX (cutbox-door.mjs). By AI agents, Wed Nov 11 2026. No macro, syntax, notation, axiom, sorry.
-/
import Derived.Test.YtgljhgjjenengaaDoorRows
import GoSem.ClaimSeven
namespace Go.Proofs.YtgljhgjjenengaaDoor
namespace Rows

/-- THE TIED CARD OF 'girderlaw18.JointsChecks'. -/
def jointsChecksCard : Claim7 := { stood := { row := jointsChecksRow, standIns := [], harness := (true, "eebda4dbddb66bd4e23321e5fe3725d001c660d64225a73ff07ae04708681620"), looks := false }, kinds := [], alts := [], laidByText := true, laidKinds := [.data], laidTests := true, laidLooks := .later }
def JointsChecksCardSaid : Prop := Claim7.holds Tryd.pinned (.plain (OpenSpec.ofChange jointsChecksSpec)) jointsChecksCard

/-- THE TIED CARD OF 'girderlaw18.JointsFinds'. -/
def jointsFindsCard : Claim7 := { stood := { row := jointsFindsRow, standIns := [], harness := (true, "eebda4dbddb66bd4e23321e5fe3725d001c660d64225a73ff07ae04708681620"), looks := false }, kinds := [], alts := [], laidByText := true, laidKinds := [.data], laidTests := true, laidLooks := .later }
def JointsFindsCardSaid : Prop := Claim7.holds Tryd.pinned (.plain (OpenSpec.ofChange jointsFindsSpec)) jointsFindsCard

/-- THE TIED CARD OF 'girderlaw18.JointsParts'. -/
def jointsPartsCard : Claim7 := { stood := { row := jointsPartsRow, standIns := [], harness := (true, "eebda4dbddb66bd4e23321e5fe3725d001c660d64225a73ff07ae04708681620"), looks := false }, kinds := [], alts := [], laidByText := true, laidKinds := [.data], laidTests := true, laidLooks := .later }
def JointsPartsCardSaid : Prop := Claim7.holds Tryd.pinned (.plain (OpenSpec.ofChange jointsPartsSpec)) jointsPartsCard

/-- THE TIED CARD OF 'girderlaw18.JointsTurned'. -/
def jointsTurnedCard : Claim7 := { stood := { row := jointsTurnedRow, standIns := [], harness := (true, "eebda4dbddb66bd4e23321e5fe3725d001c660d64225a73ff07ae04708681620"), looks := false }, kinds := [], alts := [], laidByText := true, laidKinds := [.data], laidTests := true, laidLooks := .later }
def JointsTurnedCardSaid : Prop := Claim7.holds Tryd.pinned (.plain (OpenSpec.ofChange jointsTurnedSpec)) jointsTurnedCard

/-- THE TIED CARD OF 'girderlaw18.JointsLength'. -/
def jointsLengthCard : Claim7 := { stood := { row := jointsLengthRow, standIns := [], harness := (true, "eebda4dbddb66bd4e23321e5fe3725d001c660d64225a73ff07ae04708681620"), looks := false }, kinds := [], alts := [], laidByText := true, laidKinds := [.data], laidTests := true, laidLooks := .later }
def JointsLengthCardSaid : Prop := Claim7.holds Tryd.pinned (.plain (OpenSpec.ofChange jointsLengthSpec)) jointsLengthCard

/-- THE SECOND FORM's CARD OF 'girderlaw18.JointsChecks'. -/
def jointsChecksUptoCard : Claim7 := { stood := { row := jointsChecksUptoRow, standIns := [], harness := (true, "eebda4dbddb66bd4e23321e5fe3725d001c660d64225a73ff07ae04708681620"), looks := false }, kinds := [], alts := [], laidByText := true, laidKinds := [.data], laidTests := true, laidLooks := .later }
def JointsChecksUptoCardSaid : Prop := Claim7.holds Tryd.pinned (.plain (OpenSpec.upto jointsChecksSpec)) jointsChecksUptoCard

/-- THE SECOND FORM's CARD OF 'girderlaw18.JointsFinds'. -/
def jointsFindsUptoCard : Claim7 := { stood := { row := jointsFindsUptoRow, standIns := [], harness := (true, "eebda4dbddb66bd4e23321e5fe3725d001c660d64225a73ff07ae04708681620"), looks := false }, kinds := [], alts := [], laidByText := true, laidKinds := [.data], laidTests := true, laidLooks := .later }
def JointsFindsUptoCardSaid : Prop := Claim7.holds Tryd.pinned (.plain (OpenSpec.upto jointsFindsSpec)) jointsFindsUptoCard

/-- THE SECOND FORM's CARD OF 'girderlaw18.JointsParts'. -/
def jointsPartsUptoCard : Claim7 := { stood := { row := jointsPartsUptoRow, standIns := [], harness := (true, "eebda4dbddb66bd4e23321e5fe3725d001c660d64225a73ff07ae04708681620"), looks := false }, kinds := [], alts := [], laidByText := true, laidKinds := [.data], laidTests := true, laidLooks := .later }
def JointsPartsUptoCardSaid : Prop := Claim7.holds Tryd.pinned (.plain (OpenSpec.upto jointsPartsSpec)) jointsPartsUptoCard

/-- THE SECOND FORM's CARD OF 'girderlaw18.JointsTurned'. -/
def jointsTurnedUptoCard : Claim7 := { stood := { row := jointsTurnedUptoRow, standIns := [], harness := (true, "eebda4dbddb66bd4e23321e5fe3725d001c660d64225a73ff07ae04708681620"), looks := false }, kinds := [], alts := [], laidByText := true, laidKinds := [.data], laidTests := true, laidLooks := .later }
def JointsTurnedUptoCardSaid : Prop := Claim7.holds Tryd.pinned (.plain (OpenSpec.upto jointsTurnedSpec)) jointsTurnedUptoCard

/-- THE SECOND FORM's CARD OF 'girderlaw18.JointsLength'. -/
def jointsLengthUptoCard : Claim7 := { stood := { row := jointsLengthUptoRow, standIns := [], harness := (true, "eebda4dbddb66bd4e23321e5fe3725d001c660d64225a73ff07ae04708681620"), looks := false }, kinds := [], alts := [], laidByText := true, laidKinds := [.data], laidTests := true, laidLooks := .later }
def JointsLengthUptoCardSaid : Prop := Claim7.holds Tryd.pinned (.plain (OpenSpec.upto jointsLengthSpec)) jointsLengthUptoCard
end Rows
end Go.Proofs.YtgljhgjjenengaaDoor
