/-
  Plain: topics with a message more. No program in sight but its types.
-/
import Derived.Test.YtblgmjbajnkcdaaStrTwin
import Derived.Test.YtblgmjbajnkcdaaStrP
import Derived.Test.YtblgmjbajnkcdaaBunJ
namespace Go.Proofs.Ytblgmjbajnkcdaa
open Go.RowKit

def Str.zero : Str := ⟨[], []⟩
def putS (s : Str) (id topic : Int) (k b : ByteArray) : Str × Int × Int :=
  if askS s topic = 0 then (if (addP (topN s topic) id k b).2.2 = 0 then (⟨s.tops.set topic.toNat (addP (topN s topic) id k b).1, s.coms⟩, (addP (topN s topic) id k b).2.1, 0) else (Str.zero, 0, (addP (topN s topic) id k b).2.2)) else (Str.zero, 0, askS s topic)
theorem few_of_may {s : Str} (h : mayS s) : fewS s := by
  obtain ⟨⟨h1, h2⟩, h3, _⟩ := h
  refine ⟨by omega, fun t ht => ?_, ?_⟩
  · have := (h2 t ht).1
    unfold Top.head at this
    omega
  · obtain ⟨hl, hr⟩ := okC_spec h3
    refine ⟨by omega, fun r hr' => ?_⟩
    have := (hr r hr').1
    omega
theorem OwnS.zero (w : World) (B : Nat) : OwnS w B (.agg #[.slice none 0 0, .slice none 0 0]) Str.zero := ⟨_, _, rfl, OwnT.nil _ _, OwnRows.nil _ _ _ _⟩
theorem OwnS.blk {W : World} {B b o : Nat} {t : TypeId} {cs : List Value} {v u : Value} {s : Str} (h : OwnS W B v s) (hb : Blk W b t cs) (h1t : 72 ≠ t) (h2t : 29 ≠ t) (h3t : 48 ≠ t) (h4t : 3 ≠ t) : OwnS (W.setCell ⟨b, o, none⟩ u) B v s := by
  obtain ⟨ta, tc, rfl, h1, h2⟩ := h
  exact ⟨ta, tc, rfl, h1.blk hb h1t h2t, OwnC.blk h2 hb h3t h4t⟩
def PutEnd (u : Str) (n x : Int) (w : World) (e : Ending) (w' : World) : Prop := ∃ ta tc, e = .returned (.tuple #[.agg #[ta, tc], .int .i64 n, .int .i64 x]) ∧ OwnS w' w.heap.size (.agg #[ta, tc]) u ∧ Below w.heap.size w w'
def DoEnd (u : Str) (x : Int) (w : World) (e : Ending) (w' : World) : Prop := ∃ ta tc, e = .returned (.tuple #[.agg #[ta, tc], .int .i64 x]) ∧ OwnS w' w.heap.size (.agg #[ta, tc]) u ∧ Below w.heap.size w w'
theorem cells5 {w : World} {g : Nat} {t : TypeId} {a b c d e : Value} (h : Blk w g t [a, b, c, d, e]) :
    w.cell? ⟨g, 0, none⟩ = some a ∧ w.cell? ⟨g, 1, none⟩ = some b ∧ w.cell? ⟨g, 2, none⟩ = some c ∧ w.cell? ⟨g, 3, none⟩ = some d ∧ w.cell? ⟨g, 4, none⟩ = some e ∧ ∀ o, w.frozen? ⟨g, o, none⟩ = false := ⟨h.cell 0, h.cell 1, h.cell 2, h.cell 3, h.cell 4, h.free⟩
end Go.Proofs.Ytblgmjbajnkcdaa
