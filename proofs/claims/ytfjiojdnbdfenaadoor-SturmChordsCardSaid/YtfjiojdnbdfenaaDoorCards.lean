/-
  DERIVED. GIVEN WITH THE SEED: THE CARDS: each row of YtfjiojdnbdfenaaDoorRows.lean that lists a variable, with what it lists TIED to the program's text (the seventh form; the later family's looks); each row that meets fmt, with fmt's text TOLD by the authors' own Lean function (tested against real Go, not proved from fmt's source: count such statements apart). THE CARD IS WHAT COUNTS. Prove the row's statement (the work); the ties are given (YtfjiojdnbdfenaaDoorTie.lean); close each card by the builder's one call (the guide's Derived/Test/ToyasCard.lean, 'card_holds'). Laid BY PROGRAM, IN A SANDBOX (cutbox-door.mjs). By AI agents, Wed Nov 11 2026. No macro, syntax, notation, axiom, sorry.
-/
import Derived.Test.YtfjiojdnbdfenaaDoorRows
import GoSem.ClaimSeven
namespace Go.Proofs.YtfjiojdnbdfenaaDoor
namespace Rows

/-- THE TIED CARD OF 'girderlaw17.SturmCounts'. -/
def sturmCountsCard : Claim7 := { stood := { row := sturmCountsRow, standIns := [], harness := (true, "6d8fe3e27ebb5e66842cde3ea310b673c2c6a17ca37c86bd7c6710efdfb2c123"), looks := false }, kinds := [], alts := [], laidByText := true, laidKinds := [.data], laidTests := true, laidLooks := .later }
def SturmCountsCardSaid : Prop := Claim7.holds Tryd.pinned (.plain (OpenSpec.ofChange sturmCountsSpec)) sturmCountsCard

/-- THE TIED CARD OF 'girderlaw17.SturmChords'. -/
def sturmChordsCard : Claim7 := { stood := { row := sturmChordsRow, standIns := [], harness := (true, "6d8fe3e27ebb5e66842cde3ea310b673c2c6a17ca37c86bd7c6710efdfb2c123"), looks := false }, kinds := [], alts := [], laidByText := true, laidKinds := [.data], laidTests := true, laidLooks := .later }
def SturmChordsCardSaid : Prop := Claim7.holds Tryd.pinned (.plain (OpenSpec.ofChange sturmChordsSpec)) sturmChordsCard

/-- THE TIED CARD OF 'girderlaw17.SturmLeasts'. -/
def sturmLeastsCard : Claim7 := { stood := { row := sturmLeastsRow, standIns := [], harness := (true, "6d8fe3e27ebb5e66842cde3ea310b673c2c6a17ca37c86bd7c6710efdfb2c123"), looks := false }, kinds := [], alts := [], laidByText := true, laidKinds := [.data], laidTests := true, laidLooks := .later }
def SturmLeastsCardSaid : Prop := Claim7.holds Tryd.pinned (.plain (OpenSpec.ofChange sturmLeastsSpec)) sturmLeastsCard

/-- THE TIED CARD OF 'girderlaw17.SturmRises'. -/
def sturmRisesCard : Claim7 := { stood := { row := sturmRisesRow, standIns := [], harness := (true, "6d8fe3e27ebb5e66842cde3ea310b673c2c6a17ca37c86bd7c6710efdfb2c123"), looks := false }, kinds := [], alts := [], laidByText := true, laidKinds := [.data], laidTests := true, laidLooks := .later }
def SturmRisesCardSaid : Prop := Claim7.holds Tryd.pinned (.plain (OpenSpec.ofChange sturmRisesSpec)) sturmRisesCard

/-- THE TIED CARD OF 'girderlaw17.SturmParts'. -/
def sturmPartsCard : Claim7 := { stood := { row := sturmPartsRow, standIns := [], harness := (true, "6d8fe3e27ebb5e66842cde3ea310b673c2c6a17ca37c86bd7c6710efdfb2c123"), looks := false }, kinds := [], alts := [], laidByText := true, laidKinds := [.data], laidTests := true, laidLooks := .later }
def SturmPartsCardSaid : Prop := Claim7.holds Tryd.pinned (.plain (OpenSpec.ofChange sturmPartsSpec)) sturmPartsCard

/-- THE TIED CARD OF 'girderlaw17.SturmTurned'. -/
def sturmTurnedCard : Claim7 := { stood := { row := sturmTurnedRow, standIns := [], harness := (true, "6d8fe3e27ebb5e66842cde3ea310b673c2c6a17ca37c86bd7c6710efdfb2c123"), looks := false }, kinds := [], alts := [], laidByText := true, laidKinds := [.data], laidTests := true, laidLooks := .later }
def SturmTurnedCardSaid : Prop := Claim7.holds Tryd.pinned (.plain (OpenSpec.ofChange sturmTurnedSpec)) sturmTurnedCard

/-- THE TIED CARD OF 'girderlaw17.SturmBetween'. -/
def sturmBetweenCard : Claim7 := { stood := { row := sturmBetweenRow, standIns := [], harness := (true, "6d8fe3e27ebb5e66842cde3ea310b673c2c6a17ca37c86bd7c6710efdfb2c123"), looks := false }, kinds := [], alts := [], laidByText := true, laidKinds := [.data], laidTests := true, laidLooks := .later }
def SturmBetweenCardSaid : Prop := Claim7.holds Tryd.pinned (.plain (OpenSpec.ofChange sturmBetweenSpec)) sturmBetweenCard

/-- THE TIED CARD OF 'girderlaw17.SturmGives'. -/
def sturmGivesCard : Claim7 := { stood := { row := sturmGivesRow, standIns := [], harness := (true, "6d8fe3e27ebb5e66842cde3ea310b673c2c6a17ca37c86bd7c6710efdfb2c123"), looks := false }, kinds := [], alts := [], laidByText := true, laidKinds := [.data], laidTests := true, laidLooks := .later }
def SturmGivesCardSaid : Prop := Claim7.holds Tryd.pinned (.plain (OpenSpec.ofChange sturmGivesSpec)) sturmGivesCard

/-- THE SECOND FORM's CARD OF 'girderlaw17.SturmCounts'. -/
def sturmCountsUptoCard : Claim7 := { stood := { row := sturmCountsUptoRow, standIns := [], harness := (true, "6d8fe3e27ebb5e66842cde3ea310b673c2c6a17ca37c86bd7c6710efdfb2c123"), looks := false }, kinds := [], alts := [], laidByText := true, laidKinds := [.data], laidTests := true, laidLooks := .later }
def SturmCountsUptoCardSaid : Prop := Claim7.holds Tryd.pinned (.plain (OpenSpec.upto sturmCountsSpec)) sturmCountsUptoCard

/-- THE SECOND FORM's CARD OF 'girderlaw17.SturmChords'. -/
def sturmChordsUptoCard : Claim7 := { stood := { row := sturmChordsUptoRow, standIns := [], harness := (true, "6d8fe3e27ebb5e66842cde3ea310b673c2c6a17ca37c86bd7c6710efdfb2c123"), looks := false }, kinds := [], alts := [], laidByText := true, laidKinds := [.data], laidTests := true, laidLooks := .later }
def SturmChordsUptoCardSaid : Prop := Claim7.holds Tryd.pinned (.plain (OpenSpec.upto sturmChordsSpec)) sturmChordsUptoCard

/-- THE SECOND FORM's CARD OF 'girderlaw17.SturmLeasts'. -/
def sturmLeastsUptoCard : Claim7 := { stood := { row := sturmLeastsUptoRow, standIns := [], harness := (true, "6d8fe3e27ebb5e66842cde3ea310b673c2c6a17ca37c86bd7c6710efdfb2c123"), looks := false }, kinds := [], alts := [], laidByText := true, laidKinds := [.data], laidTests := true, laidLooks := .later }
def SturmLeastsUptoCardSaid : Prop := Claim7.holds Tryd.pinned (.plain (OpenSpec.upto sturmLeastsSpec)) sturmLeastsUptoCard

/-- THE SECOND FORM's CARD OF 'girderlaw17.SturmRises'. -/
def sturmRisesUptoCard : Claim7 := { stood := { row := sturmRisesUptoRow, standIns := [], harness := (true, "6d8fe3e27ebb5e66842cde3ea310b673c2c6a17ca37c86bd7c6710efdfb2c123"), looks := false }, kinds := [], alts := [], laidByText := true, laidKinds := [.data], laidTests := true, laidLooks := .later }
def SturmRisesUptoCardSaid : Prop := Claim7.holds Tryd.pinned (.plain (OpenSpec.upto sturmRisesSpec)) sturmRisesUptoCard

/-- THE SECOND FORM's CARD OF 'girderlaw17.SturmParts'. -/
def sturmPartsUptoCard : Claim7 := { stood := { row := sturmPartsUptoRow, standIns := [], harness := (true, "6d8fe3e27ebb5e66842cde3ea310b673c2c6a17ca37c86bd7c6710efdfb2c123"), looks := false }, kinds := [], alts := [], laidByText := true, laidKinds := [.data], laidTests := true, laidLooks := .later }
def SturmPartsUptoCardSaid : Prop := Claim7.holds Tryd.pinned (.plain (OpenSpec.upto sturmPartsSpec)) sturmPartsUptoCard

/-- THE SECOND FORM's CARD OF 'girderlaw17.SturmTurned'. -/
def sturmTurnedUptoCard : Claim7 := { stood := { row := sturmTurnedUptoRow, standIns := [], harness := (true, "6d8fe3e27ebb5e66842cde3ea310b673c2c6a17ca37c86bd7c6710efdfb2c123"), looks := false }, kinds := [], alts := [], laidByText := true, laidKinds := [.data], laidTests := true, laidLooks := .later }
def SturmTurnedUptoCardSaid : Prop := Claim7.holds Tryd.pinned (.plain (OpenSpec.upto sturmTurnedSpec)) sturmTurnedUptoCard

/-- THE SECOND FORM's CARD OF 'girderlaw17.SturmBetween'. -/
def sturmBetweenUptoCard : Claim7 := { stood := { row := sturmBetweenUptoRow, standIns := [], harness := (true, "6d8fe3e27ebb5e66842cde3ea310b673c2c6a17ca37c86bd7c6710efdfb2c123"), looks := false }, kinds := [], alts := [], laidByText := true, laidKinds := [.data], laidTests := true, laidLooks := .later }
def SturmBetweenUptoCardSaid : Prop := Claim7.holds Tryd.pinned (.plain (OpenSpec.upto sturmBetweenSpec)) sturmBetweenUptoCard

/-- THE SECOND FORM's CARD OF 'girderlaw17.SturmGives'. -/
def sturmGivesUptoCard : Claim7 := { stood := { row := sturmGivesUptoRow, standIns := [], harness := (true, "6d8fe3e27ebb5e66842cde3ea310b673c2c6a17ca37c86bd7c6710efdfb2c123"), looks := false }, kinds := [], alts := [], laidByText := true, laidKinds := [.data], laidTests := true, laidLooks := .later }
def SturmGivesUptoCardSaid : Prop := Claim7.holds Tryd.pinned (.plain (OpenSpec.upto sturmGivesSpec)) sturmGivesUptoCard
end Rows
end Go.Proofs.YtfjiojdnbdfenaaDoor
