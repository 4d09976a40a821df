/-
  Plain: what a call leaves that writes over what its caller made. No program in sight.
-/
import Derived.Test.YtblgmjbajnkcdabStrSh
namespace Go.Proofs.Ytblgmjbajnkcdab
open Go.RowKit

def SpoilS (B T : Nat) (w : World) (e : Ending) (w' : World) : Prop := (∃ r, e = .returned r) ∧ Below B w w' ∧ ∀ b, T ≤ b → b < w.heap.size → w'.heap[b]? = w.heap[b]?
theorem LtT.row {T m uc gu i : Nat} {v : Value} {us : List Value} (h : LtT T v us) (hi : i < us.length) (hu : us.getD i .nilIface = .slice (some ⟨gu, 0, none⟩) m uc) : gu < T := by
  refine h.2 (us.getD i .nilIface) ?_ gu (by rw [hu]; rfl)
  rw [show us.getD i .nilIface = us[i] by simp [List.getD, hi]]
  exact List.getElem_mem hi
def FrS (B T : Nat) (w wr : World) : Prop := Below B w wr ∧ ∀ b, T ≤ b → b < w.heap.size → wr.heap[b]? = w.heap[b]?
theorem FrS.set_ {B T b o : Nat} {w wr : World} {u : Value} (h : FrS B T w wr) (h1 : B ≤ b) (h2 : b < T) : FrS B T w (wr.setCell ⟨b, o, none⟩ u) := by
  refine ⟨h.1.setCell (p := ⟨b, o, none⟩) h1 _, fun c hc hw => ?_⟩
  rw [heap_setCell_other _ _ _ _ (fun e => by have e' : c = b := e; omega)]
  exact h.2 c hc hw

end Go.Proofs.Ytblgmjbajnkcdab
