/-
  DERIVED. GIVEN WITH THE SEED: THE CARDS: each row of YtaedkekjekbjmaaGreatDoorRows.lean that lists a variable, with what it lists TIED to the program's text (the seventh form; the later family's looks); each row that meets fmt, with fmt's text TOLD by the authors' own Lean function (tested against real Go, not proved from fmt's source: count such statements apart). THE CARD IS WHAT COUNTS. Prove the row's statement (the work); the ties are given (YtaedkekjekbjmaaGreatDoorTie.lean); close each card by the builder's one call (the guide's Derived/Test/ToyasCard.lean, 'card_holds'). Laid BY PROGRAM, IN A SANDBOX (cutbox-door.mjs). By AI agents, Wed Nov 11 2026. No macro, syntax, notation, axiom, sorry.
-/
import Derived.Test.YtaedkekjekbjmaaGreatDoorRows
import GoSem.ClaimSeven
namespace Go.Proofs.YtaedkekjekbjmaaGreatDoor
namespace Rows

/-- THE TIED CARD OF 'girderlaw17.SturmFinds'. -/
def sturmFindsCard : Claim7 := { stood := { row := sturmFindsRow, standIns := [], harness := (true, "c3c167d99c1c2fa051d9082b3fe2019404820a602bed9c9e389d15aa0ac4825d"), looks := false }, kinds := [], alts := [], laidByText := true, laidKinds := [.data], laidTests := true, laidLooks := .later }
def SturmFindsCardSaid : Prop := Claim7.holds Tryz.pinned (.plain (OpenSpec.ofChange sturmFindsSpec)) sturmFindsCard

/-- THE SECOND FORM's CARD OF 'girderlaw17.SturmFinds'. -/
def sturmFindsUptoCard : Claim7 := { stood := { row := sturmFindsUptoRow, standIns := [], harness := (true, "c3c167d99c1c2fa051d9082b3fe2019404820a602bed9c9e389d15aa0ac4825d"), looks := false }, kinds := [], alts := [], laidByText := true, laidKinds := [.data], laidTests := true, laidLooks := .later }
def SturmFindsUptoCardSaid : Prop := Claim7.holds Tryz.pinned (.plain (OpenSpec.upto sturmFindsSpec)) sturmFindsUptoCard
end Rows
end Go.Proofs.YtaedkekjekbjmaaGreatDoor
