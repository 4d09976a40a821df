/-
  Standing facts behind one more call. No program in sight.
-/
import Derived.Test.YtolgkadoplalnaaOwn
namespace Go.Proofs.Ytolgkadoplalnaa
open Go.RowKit

theorem below_alloc {a w : World} (h : Below a.heap.size a w) {o : Obj} : Below a.heap.size a (w.alloc o) := h.alloc h.size o
theorem below_step {a w w' : World} (h : Below a.heap.size a w) (hb : Below w.heap.size w w') : Below a.heap.size a w' := h.trans (hb.mono h.size)
theorem topR_step {w W w' : World} {v : Value} {t : Top} (h : TopR w v t) (h1 : Below w.heap.size w W) (hb : Below W.heap.size W w') : TopR w' v t := h.below (below_step h1 hb)
theorem own_step {W w' : World} {B : Nat} {v : Value} {l : List Ent} (h : OwnE W B v l) (hb : Below W.heap.size W w') : OwnE w' B v l := own_below h hb

/-- What was there in w0 is there still. -/
def Since (w0 w : World) : Prop := Below w0.heap.size w0 w
theorem Since.out {w0 w : World} (h : Since w0 w) : Below w0.heap.size w0 w := h
/-- A region that draws its order and only reads, its calls such as make memory: as one call. -/
theorem wp_region_below {P : Program} {id : Nat} {Q : Exit → Act → World → Prop} {a : Act} {w : World} {l : List Oper} (hm : P.follows .mixedOrders = true) (hB : Region.lexB .any l.toArray = true)
    (h : wpQuiet P l.toArray (fun W => Since w W) (fun a' => ∀ w', Below w.heap.size w w' → Q .normal a' w') l a) : (Code.region id l.toArray true).wp P Q a w :=
  wp_region_class (fun W => Since w W) hm hB (Below.refl _ _).drew h
theorem call_in {P : Program} {f : FuncId} {args : Array Value} {w0 w : World} {v : Value} (hq : Below w0.heap.size w0 w) (h : Calls P f args w fun e w' => e = .returned v ∧ Below w.heap.size w w') :
    Calls P f args w fun e w' => e = .returned v ∧ Since w0 w' := h.mono fun _ _ ⟨h1, h2⟩ => ⟨h1, below_step hq h2⟩
/-- The world at which the walk stands, under a letter, of which C alone is known. -/
theorem at_code {P : Program} {c : Code} {Q : Exit → Act → World → Prop} {a : Act} {w : World} (C : World → Prop) (h : C w) (k : ∀ W, C W → Code.wp P c Q a W) : Code.wp P c Q a w := k w h
end Go.Proofs.Ytolgkadoplalnaa
