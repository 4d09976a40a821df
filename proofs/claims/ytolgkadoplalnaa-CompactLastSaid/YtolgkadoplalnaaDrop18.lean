/-
  A slice from a place on reads as the list from there on. No program in sight.
-/
import Derived.Test.YtolgkadoplalnaaTopR
namespace Go.Proofs.Ytolgkadoplalnaa
open Go.RowKit

theorem sliceR_drop {w : World} {a : Option Addr} {n cap : Nat} {l : List Ent} (h : SliceR w (.slice a n cap) 4 entCells l) {k : Nat} (hk : k ≤ n) :
    SliceR w (.slice (if cap = k then a else a.map (·.add (k * 4))) (n - k) (cap - k)) 4 entCells (l.drop k) := by
  obtain ⟨a', cap', e, h2, h3, h4, h5⟩ := h
  cases e
  refine ⟨_, cap - k, by rw [List.length_drop], by rw [List.length_drop]; omega, by omega, fun hn => ?_, fun hl => ?_⟩
  · by_cases hc : cap = k
    · omega
    · rw [if_neg hc] at hn
      cases a with
      | none => have := h4 rfl; omega
      | some ad => simp at hn
  · rw [List.length_drop] at hl
    obtain ⟨b, off, ha, hd⟩ := h5 (by omega)
    subst ha
    rw [if_neg (by omega)]
    refine ⟨b, off + k * 4, by simp [Addr.add], fun i hi j hj => ?_⟩
    have := hd (k + i) (by rw [List.length_drop] at hi; omega) j hj
    rw [List.getElem_drop]
    rw [← this]
    congr 2
    omega
end Go.Proofs.Ytolgkadoplalnaa
