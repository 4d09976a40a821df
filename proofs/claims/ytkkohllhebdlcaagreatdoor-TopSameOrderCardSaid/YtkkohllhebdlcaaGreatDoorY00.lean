/-
  A fact kept from the walk, under a short name. No condition.
-/
import Derived.Lib.Hide
import Derived.RowKitTokens
namespace Go.Proofs.YtkkohllhebdlcaaGreatDoor
open Go.RowKit
theorem LH {p : Prop} (h : p) : Hid p := h
end Go.Proofs.YtkkohllhebdlcaaGreatDoor
