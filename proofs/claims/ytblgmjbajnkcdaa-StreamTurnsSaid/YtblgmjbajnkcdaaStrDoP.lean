/-
  Plain: a command on a topic. No program in sight but its types.
-/
import Derived.Test.YtblgmjbajnkcdaaStrPutP
import Derived.Test.YtblgmjbajnkcdaaBunD
import Derived.Test.YtblgmjbajnkcdaaBunH
namespace Go.Proofs.Ytblgmjbajnkcdaa
open Go.RowKit

/-- A topic turned by r, or r's error. -/
def turnS (s : Str) (topic : Int) (r : Top × Int) : Str × Int := if r.2 = 0 then (⟨s.tops.set topic.toNat r.1, s.coms⟩, 0) else (Str.zero, r.2)
def commitS (s : Str) (topic who n : Int) : Str × Int :=
  if who < 0 ∨ 8 ≤ who ∨ n < 0 ∨ 1073741824 < n then (Str.zero, 2) else if (topN s topic).next < n then (Str.zero, 170) else (⟨s.tops, setC s.coms topic who n⟩, 0)
def doS (s : Str) (kind topic who n : Int) : Str × Int :=
  if askS s topic = 0 then (if kind = 4 then commitS s topic who n else if kind = 5 then turnS s topic (trimP (topN s topic) n) else if kind = 6 then turnS s topic (compactP (topN s topic) n) else (Str.zero, 2)) else (Str.zero, askS s topic)
theorem cells12 {w : World} {g : Nat} {t : TypeId} {a b c d e f a' b' c' d' e' f' : Value} (h : Blk w g t [a, b, c, d, e, f, a', b', c', d', e', f']) :
    ((w.cell? ⟨g, 0, none⟩ = some a ∧ w.cell? ⟨g, 1, none⟩ = some b ∧ w.cell? ⟨g, 2, none⟩ = some c ∧ w.cell? ⟨g, 3, none⟩ = some d) ∧ (w.cell? ⟨g, 4, none⟩ = some e ∧ w.cell? ⟨g, 5, none⟩ = some f ∧ w.cell? ⟨g, 6, none⟩ = some a' ∧ w.cell? ⟨g, 7, none⟩ = some b') ∧
      w.cell? ⟨g, 8, none⟩ = some c' ∧ w.cell? ⟨g, 9, none⟩ = some d' ∧ w.cell? ⟨g, 10, none⟩ = some e' ∧ w.cell? ⟨g, 11, none⟩ = some f') ∧ ∀ o, w.frozen? ⟨g, o, none⟩ = false :=
  ⟨⟨⟨h.cell 0, h.cell 1, h.cell 2, h.cell 3⟩, ⟨h.cell 4, h.cell 5, h.cell 6, h.cell 7⟩, h.cell 8, h.cell 9, h.cell 10, h.cell 11⟩, h.free⟩
end Go.Proofs.Ytblgmjbajnkcdaa
