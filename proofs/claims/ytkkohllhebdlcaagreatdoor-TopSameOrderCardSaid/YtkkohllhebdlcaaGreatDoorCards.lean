/-
  DERIVED. GIVEN WITH THE SEED: THE CARDS: each row of YtkkohllhebdlcaaGreatDoorRows.lean that lists a variable, with what it lists TIED to the program's text (the seventh form; the later family's looks); each row that meets fmt, with fmt's text TOLD by the authors' own Lean function (tested against real Go, not proved from fmt's source: count such statements apart). THE CARD IS WHAT COUNTS. Prove the row's statement (the work); the ties are given (YtkkohllhebdlcaaGreatDoorTie.lean); close each card by the builder's one call (the guide's Derived/Test/ToyasCard.lean, 'card_holds'). Laid BY PROGRAM, IN A SANDBOX (cutbox-door.mjs). By AI agents, Wed Nov 11 2026. No macro, syntax, notation, axiom, sorry.
-/
import Derived.Test.YtkkohllhebdlcaaGreatDoorRows
import GoSem.ClaimSeven
namespace Go.Proofs.YtkkohllhebdlcaaGreatDoor
namespace Rows

/-- THE TIED CARD OF 'towncriertop.TopSameOrder'. -/
def topSameOrderCard : Claim7 := { stood := { row := topSameOrderRow, standIns := [], harness := (true, "f5ab3aed88583a4a2950cf7d4a5c66c33333c0903e41a0b25728e1e37a45a7b4"), looks := true }, kinds := [], alts := [], laidByText := true, laidKinds := [.handle], laidTests := true, laidLooks := .later }
def TopSameOrderCardSaid : Prop := Claim7.holds Tryz.pinned (.plain (OpenSpec.ofChange topSameOrderSpec)) topSameOrderCard

/-- THE SECOND FORM's CARD OF 'towncriertop.TopSameOrder'. -/
def topSameOrderUptoCard : Claim7 := { stood := { row := topSameOrderUptoRow, standIns := [], harness := (true, "f5ab3aed88583a4a2950cf7d4a5c66c33333c0903e41a0b25728e1e37a45a7b4"), looks := true }, kinds := [], alts := [], laidByText := true, laidKinds := [.handle], laidTests := true, laidLooks := .later }
def TopSameOrderUptoCardSaid : Prop := Claim7.holds Tryz.pinned (.plain (OpenSpec.upto topSameOrderSpec)) topSameOrderUptoCard
end Rows
end Go.Proofs.YtkkohllhebdlcaaGreatDoor
