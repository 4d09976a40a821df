/-
  Plain: whether a topic may be is decided; the empty topic. No program in sight.
-/
import Derived.Test.YtolgkadoplalnaaTopP
namespace Go.Proofs.Ytolgkadoplalnaa
instance (t : Top) (i : Nat) : Decidable (Top.good t i) := by unfold Top.good; infer_instance
instance (t : Top) : Decidable t.may := by unfold Top.may; infer_instance
def Top.zero : Top := ⟨0, 0, 0, []⟩
end Go.Proofs.Ytolgkadoplalnaa
