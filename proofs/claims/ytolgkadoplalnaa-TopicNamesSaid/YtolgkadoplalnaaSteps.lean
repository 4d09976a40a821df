/-
  Standing facts behind one more call. No program in sight.
-/
import Derived.Test.YtolgkadoplalnaaOwn
namespace Go.Proofs.Ytolgkadoplalnaa
open Go.RowKit

theorem below_alloc {a w : World} (h : Below a.heap.size a w) {o : Obj} : Below a.heap.size a (w.alloc o) := h.alloc h.size o
theorem below_step {a w w' : World} (h : Below a.heap.size a w) (hb : Below w.heap.size w w') : Below a.heap.size a w' := h.trans (hb.mono h.size)
theorem topR_step {w W w' : World} {v : Value} {t : Top} (h : TopR w v t) (h1 : Below w.heap.size w W) (hb : Below W.heap.size W w') : TopR w' v t := h.below (below_step h1 hb)
theorem own_step {W w' : World} {B : Nat} {v : Value} {l : List Ent} (h : OwnE W B v l) (hb : Below W.heap.size W w') : OwnE w' B v l := own_below h hb

/-- The world at which the walk stands, under a letter, of which C alone is known. -/
theorem at_code {P : Program} {c : Code} {Q : Exit → Act → World → Prop} {a : Act} {w : World} (C : World → Prop) (h : C w) (k : ∀ W, C W → Code.wp P c Q a W) : Code.wp P c Q a w := k w h
end Go.Proofs.Ytolgkadoplalnaa
