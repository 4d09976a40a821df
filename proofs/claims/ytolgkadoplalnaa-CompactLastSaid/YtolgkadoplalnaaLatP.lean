/-
  Plain: the last one of a key below an offset. No program in sight.
-/
import Derived.Test.YtolgkadoplalnaaAddLaw
namespace Go.Proofs.Ytolgkadoplalnaa
open Go.RowKit

def wantE (key : ByteArray) (below : Int) (x : Ent) : Bool := (x.key.toList == key.toList) && decide (x.off < below)
def lastP (l : List Ent) (key : ByteArray) (below : Int) : Ent × Bool := match l.reverse.find? (wantE key below) with
  | some x => (x, true)
  | none => (default, false)
def latestP (t : Top) (key : ByteArray) (below : Int) : Ent × Bool × Int :=
  if t.may then (if 16 < key.size then (default, false, 3) else ((lastP t.ents key below).1, (lastP t.ents key below).2, 0)) else (default, false, 8)
/-- An entry, whether there is one, a number. -/
def LatEnd (x : Ent) (b : Bool) (n : Int) (w : World) (e : Ending) (w' : World) : Prop :=
  e = .returned (.tuple #[.agg #[.int .i64 x.off, .int .i64 x.id, .string x.key, .string x.body], .bool b, .int .i64 n]) ∧ Below w.heap.size w w'
theorem last_snoc (l : List Ent) (x : Ent) (key : ByteArray) (below : Int) : lastP (l ++ [x]) key below = if wantE key below x then (x, true) else lastP l key below := by
  unfold lastP
  rw [List.reverse_append, List.reverse_singleton, List.singleton_append]
  by_cases h : wantE key below x = true
  · rw [List.find?_cons_of_pos h, if_pos h]
  · rw [List.find?_cons_of_neg h, if_neg h]
end Go.Proofs.Ytolgkadoplalnaa
