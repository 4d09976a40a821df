/-
  Proved here: model.New and the document's. No condition.
-/
import Derived.Test.YtkkohllhebdlcaaGreatDoorY20
import Derived.Test.YtkkohllhebdlcaaGreatDoorY21
import Derived.Deep.CutRange
set_option maxRecDepth 100000
namespace Go.Proofs.YtkkohllhebdlcaaGreatDoor
open Go.RowKit
def newM:Mdl:=⟨List.replicate 4 default,newC⟩
end Go.Proofs.YtkkohllhebdlcaaGreatDoor
