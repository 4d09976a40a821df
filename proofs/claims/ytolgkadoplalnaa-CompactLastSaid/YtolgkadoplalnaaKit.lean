/-
  Small helpers: no program in sight.
-/
import Derived.WalkKit
import Derived.Lib.Hide
import Derived.Deep.QuietTactic
import Derived.BigQuiet
namespace Go.Proofs.Ytolgkadoplalnaa
open Go.RowKit

theorem callsFlip {P : Program} {f : FuncId} {args : Array Value} {w : World} {r : Ending} (h : Calls P f args w fun e w' => e = r ∧ w = w') : Calls P f args w fun e w' => e = r ∧ w' = w :=
  h.mono fun _ _ ⟨a, b⟩ => ⟨a, b.symm⟩

theorem bcell {W w1 : World} {B : Nat} (hb : Below B W w1) : (∀ b o, b < B → w1.cell? ⟨b, o, none⟩ = W.cell? ⟨b, o, none⟩) ∧ (∀ b o, b < B → w1.frozen? ⟨b, o, none⟩ = W.frozen? ⟨b, o, none⟩) :=
  ⟨fun b o h => hb.cell (p := ⟨b, o, none⟩) h, fun b o h => hb.frozen (p := ⟨b, o, none⟩) h⟩

/-- A cell that was there when a call began, behind it. -/
theorem keep {W w1 : World} {a : Addr} {v : Value} (hb : Below W.heap.size W w1) (h : W.cell? a = some v) : w1.cell? a = some v := by
  have := World.block_lt_of_cell? W _ h
  rw [hb.cell this]; exact h

/-- One operation of a region that draws its order, in a class of worlds: the value that it yields in every world of the class. -/
theorem quiet_any {P : Program} {ops : Array Oper} {o : Oper} {a : Act} {C : World → Prop} {K : Act → Prop} (hw : Region.wanted o (yielded ops a.tmps) = true)
    (h : ∃ v, (∀ w', C w' → Oper.quietUpon P C w' v ((execOp a.eval o).run P w')) ∧ K (a.put o.dst v)) : if Region.wanted o (yielded ops a.tmps) then o.quiet P a C K else K (a.put o.dst undef) := by
  rw [if_pos hw]
  exact h
theorem quiet_not {P : Program} {ops : Array Oper} {o : Oper} {a : Act} {C : World → Prop} {K : Act → Prop} (hw : Region.wanted o (yielded ops a.tmps) = false)
    (hk : K (a.put o.dst undef)) : if Region.wanted o (yielded ops a.tmps) then o.quiet P a C K else K (a.put o.dst undef) := by
  rw [if_neg (by rw [hw]; exact Bool.false_ne_true)]
  exact hk
/-- A region that draws, its operations written out, at a class of one's own. -/
theorem wp_region_class {P : Program} {id : Nat} {Q : Exit → Act → World → Prop} {a : Act} {w : World} {l : List Oper} (C : World → Prop) (hm : P.follows .mixedOrders = true) (hB : Region.lexB .any l.toArray = true) (hC : C w.drew)
    (h : wpQuiet P l.toArray C (fun a' => ∀ w', C w' → Q .normal a' w') l a) : (Code.region id l.toArray true).wp P Q a w :=
  wp_region_quiet (C := C) hm hB hC (by simpa using h)
theorem drewBelow (w : World) : Below w.heap.size w w.drew := (Below.refl _ _).drew

def LawEnd (w : World) (e : Ending) (w' : World) : Prop := e = .returned (.bool true) ∧ Below w.heap.size w w'

end Go.Proofs.Ytolgkadoplalnaa
