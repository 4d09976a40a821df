/-
  DERIVED. GIVEN WITH THE SEED: THE CARDS: each row of YtdfmcgekfogpbabGreatDoorRows.lean that lists a variable, with what it lists TIED to the program's text (the seventh form; the later family's looks); each row that meets fmt, with fmt's text TOLD by the authors' own Lean function (tested against real Go, not proved from fmt's source: count such statements apart). THE CARD IS WHAT COUNTS. Prove the row's statement (the work); the ties are given (YtdfmcgekfogpbabGreatDoorTie.lean); close each card by the builder's one call (the guide's Derived/Test/ToyasCard.lean, 'card_holds'). Laid BY PROGRAM, IN A SANDBOX (cutbox-door.mjs). By AI agents, Wed Nov 11 2026. No macro, syntax, notation, axiom, sorry.
-/
import Derived.Test.YtdfmcgekfogpbabGreatDoorRows
import GoSem.ClaimSeven
namespace Go.Proofs.YtdfmcgekfogpbabGreatDoor
namespace Rows

/-- THE TIED CARD OF 'towncriertop.TopModel'. -/
def topModelCard : Claim7 := { stood := { row := topModelRow, standIns := [], harness := (true, "0a4a176a0632e2804fa26d0a3be9b1506507b33f2ad29f231903094d9ec98b02"), looks := true }, kinds := [], alts := [], laidByText := true, laidKinds := [.handle], laidTests := true, laidLooks := .later }
def TopModelCardSaid : Prop := Claim7.holds Tryz.pinned (.plain (OpenSpec.ofChange topModelSpec)) topModelCard

/-- THE SECOND FORM's CARD OF 'towncriertop.TopModel'. -/
def topModelUptoCard : Claim7 := { stood := { row := topModelUptoRow, standIns := [], harness := (true, "0a4a176a0632e2804fa26d0a3be9b1506507b33f2ad29f231903094d9ec98b02"), looks := true }, kinds := [], alts := [], laidByText := true, laidKinds := [.handle], laidTests := true, laidLooks := .later }
def TopModelUptoCardSaid : Prop := Claim7.holds Tryz.pinned (.plain (OpenSpec.upto topModelSpec)) topModelUptoCard
end Rows
end Go.Proofs.YtdfmcgekfogpbabGreatDoor
