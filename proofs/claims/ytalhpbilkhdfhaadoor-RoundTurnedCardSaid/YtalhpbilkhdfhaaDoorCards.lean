/-
  DERIVED. GIVEN WITH THE SEED: THE CARDS: each row of YtalhpbilkhdfhaaDoorRows.lean that lists a variable, with what it lists TIED to the program's text (the seventh form; the later family's looks); each row that meets fmt, with fmt's text TOLD by the authors' own Lean function (tested against real Go, not proved from fmt's source: count such statements apart). THE CARD IS WHAT COUNTS. Prove the row's statement (the work); the ties are given (YtalhpbilkhdfhaaDoorTie.lean); close each card by the builder's one call (the guide's Derived/Test/ToyasCard.lean, 'card_holds'). Laid BY PROGRAM, IN A SANDBOX (cutbox-door.mjs). By AI agents, Wed Nov 11 2026. No macro, syntax, notation, axiom, sorry.
-/
import Derived.Test.YtalhpbilkhdfhaaDoorRows
import GoSem.ClaimSeven
namespace Go.Proofs.YtalhpbilkhdfhaaDoor
namespace Rows

/-- THE TIED CARD OF 'girderlaw03.RoundTurned'. -/
def roundTurnedCard : Claim7 := { stood := { row := roundTurnedRow, standIns := [], harness := (true, "d481152fc54f953393262e6ebb7c74339bbf43e5d4fd145257b4a41a23cecb35"), looks := false }, kinds := [], alts := [], laidByText := true, laidKinds := [.data], laidTests := true, laidLooks := .later }
def RoundTurnedCardSaid : Prop := Claim7.holds Tryd.pinned (.plain (OpenSpec.ofChange roundTurnedSpec)) roundTurnedCard

/-- THE TIED CARD OF 'girderlaw03.RoundGrows'. -/
def roundGrowsCard : Claim7 := { stood := { row := roundGrowsRow, standIns := [], harness := (true, "d481152fc54f953393262e6ebb7c74339bbf43e5d4fd145257b4a41a23cecb35"), looks := false }, kinds := [], alts := [], laidByText := true, laidKinds := [.data], laidTests := true, laidLooks := .later }
def RoundGrowsCardSaid : Prop := Claim7.holds Tryd.pinned (.plain (OpenSpec.ofChange roundGrowsSpec)) roundGrowsCard

/-- THE SECOND FORM's CARD OF 'girderlaw03.RoundTurned'. -/
def roundTurnedUptoCard : Claim7 := { stood := { row := roundTurnedUptoRow, standIns := [], harness := (true, "d481152fc54f953393262e6ebb7c74339bbf43e5d4fd145257b4a41a23cecb35"), looks := false }, kinds := [], alts := [], laidByText := true, laidKinds := [.data], laidTests := true, laidLooks := .later }
def RoundTurnedUptoCardSaid : Prop := Claim7.holds Tryd.pinned (.plain (OpenSpec.upto roundTurnedSpec)) roundTurnedUptoCard

/-- THE SECOND FORM's CARD OF 'girderlaw03.RoundGrows'. -/
def roundGrowsUptoCard : Claim7 := { stood := { row := roundGrowsUptoRow, standIns := [], harness := (true, "d481152fc54f953393262e6ebb7c74339bbf43e5d4fd145257b4a41a23cecb35"), looks := false }, kinds := [], alts := [], laidByText := true, laidKinds := [.data], laidTests := true, laidLooks := .later }
def RoundGrowsUptoCardSaid : Prop := Claim7.holds Tryd.pinned (.plain (OpenSpec.upto roundGrowsSpec)) roundGrowsUptoCard
end Rows
end Go.Proofs.YtalhpbilkhdfhaaDoor
