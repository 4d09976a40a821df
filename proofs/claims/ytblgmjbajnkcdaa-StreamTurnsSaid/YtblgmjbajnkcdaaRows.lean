/-
  No cell of these rows narrows 'for every input' (looked for: loops, veiled, ifaces, maps, wideKeys, modest, calm, conditions, laid).
  DERIVED. THE GIVEN ROWS OF THIS SEAT. 5 by the template 'for every input the law returns true; each argument reads behind the call as it read before'; 0 by the template 'total and deterministic' (their statements: YtblgmjbajnkcdaaTotals.lean).
  GIVEN WITH THE SEED: the statements are not yours to turn. If you find one false, say at which input.
  Laid BY PROGRAM, IN A SANDBOX (cutbox-rows.mjs): the forced cells as the released guide's own fill.sh prints them over the translation 4ecbbc63030b8402… (all of the seat's roots in one cut). By AI agents, Wed Nov 11 2026. No macro, syntax, notation, axiom, sorry.
-/
import Derived.Test.YtblgmjbajnkcdaaChecked
import GoSem.Claim
import GoSem.ClaimJoined
import GoSem.ClaimMapViews
import Derived.JoinedTies
import Derived.KernelRfl
namespace Go.Proofs.Ytblgmjbajnkcdaa
/- THE CELL 'sum', in the pinned program and in every row, IS THE sha256 OF THE DUMP (.gsa) THAT YtblgmjbajnkcdaaProg.lean LOADS. Nothing in Lean hashes anything: it is a label: what it is worth is what the hold of that sum in a sandbox is worth. -/
noncomputable def Try.pinned : Pinned := { name := "ytblgmjbajnkcdaa", sum := "4ecbbc63030b8402ce5ed74adbe3331dfda96d5e1365af15245d66b2838b397a", checked := Try.checked }
namespace Rows
def none {H : Type} : Left H := { results := [], args := [] }

/-- 'towncrierlaw21.StreamTells': WHATEVER THE INPUT: true; the input reads as it did. -/
def streamTellsSpec : ChangeSpec := { name := "streamTells", fn := fun _ => fun
  | [d1, d2, d3, d4] => { results := [.lit (.bool true)], args := [d1, d2, d3, d4] }
  | _ => none }
def streamTellsRow : OpenClaim := { program := "ytblgmjbajnkcdaa", sum := "4ecbbc63030b8402ce5ed74adbe3331dfda96d5e1365af15245d66b2838b397a", func := "towncrier/towncrierlaw21.StreamTells", spec := "streamTells", unfollowed := true, recurses := true, apart := false }
def StreamTellsSaid : Prop := streamTellsRow.holds Try.pinned (OpenSpec.ofChange streamTellsSpec)

/-- ITS FALSE NEIGHBOUR: 'it returns false'. Refute it at one input. -/
def streamTellsWrong : ChangeSpec := { name := "streamTells", fn := fun _ => fun
  | [d1, d2, d3, d4] => { results := [.lit (.bool false)], args := [d1, d2, d3, d4] }
  | _ => none }
def StreamTellsWrongFalsely : Prop := streamTellsRow.holds Try.pinned (OpenSpec.ofChange streamTellsWrong)

/-- 'towncrierlaw21.StreamRuns': WHATEVER THE INPUT: true; the input reads as it did. -/
def streamRunsSpec : ChangeSpec := { name := "streamRuns", fn := fun _ => fun
  | [d] => { results := [.lit (.bool true)], args := [d] }
  | _ => none }
def streamRunsRow : OpenClaim := { program := "ytblgmjbajnkcdaa", sum := "4ecbbc63030b8402ce5ed74adbe3331dfda96d5e1365af15245d66b2838b397a", func := "towncrier/towncrierlaw21.StreamRuns", spec := "streamRuns", unfollowed := true, recurses := true, apart := false }
def StreamRunsSaid : Prop := streamRunsRow.holds Try.pinned (OpenSpec.ofChange streamRunsSpec)

/-- ITS FALSE NEIGHBOUR: 'it returns false'. Refute it at one input. -/
def streamRunsWrong : ChangeSpec := { name := "streamRuns", fn := fun _ => fun
  | [d] => { results := [.lit (.bool false)], args := [d] }
  | _ => none }
def StreamRunsWrongFalsely : Prop := streamRunsRow.holds Try.pinned (OpenSpec.ofChange streamRunsWrong)

/-- 'towncrierlaw21.StreamTurns': WHATEVER THE INPUT: true; the input reads as it did. -/
def streamTurnsSpec : ChangeSpec := { name := "streamTurns", fn := fun _ => fun
  | [d1, d2, d3, d4] => { results := [.lit (.bool true)], args := [d1, d2, d3, d4] }
  | _ => none }
def streamTurnsRow : OpenClaim := { program := "ytblgmjbajnkcdaa", sum := "4ecbbc63030b8402ce5ed74adbe3331dfda96d5e1365af15245d66b2838b397a", func := "towncrier/towncrierlaw21.StreamTurns", spec := "streamTurns", unfollowed := true, recurses := true, apart := false }
def StreamTurnsSaid : Prop := streamTurnsRow.holds Try.pinned (OpenSpec.ofChange streamTurnsSpec)

/-- ITS FALSE NEIGHBOUR: 'it returns false'. Refute it at one input. -/
def streamTurnsWrong : ChangeSpec := { name := "streamTurns", fn := fun _ => fun
  | [d1, d2, d3, d4] => { results := [.lit (.bool false)], args := [d1, d2, d3, d4] }
  | _ => none }
def StreamTurnsWrongFalsely : Prop := streamTurnsRow.holds Try.pinned (OpenSpec.ofChange streamTurnsWrong)

/-- 'towncrierlaw21.StreamNames': WHATEVER THE INPUT: true; the input reads as it did. -/
def streamNamesSpec : ChangeSpec := { name := "streamNames", fn := fun _ => fun
  | [] => { results := [.lit (.bool true)], args := [] }
  | _ => none }
def streamNamesRow : OpenClaim := { program := "ytblgmjbajnkcdaa", sum := "4ecbbc63030b8402ce5ed74adbe3331dfda96d5e1365af15245d66b2838b397a", func := "towncrier/towncrierlaw21.StreamNames", spec := "streamNames", unfollowed := true, recurses := true, apart := false }
def StreamNamesSaid : Prop := streamNamesRow.holds Try.pinned (OpenSpec.ofChange streamNamesSpec)

/-- ITS FALSE NEIGHBOUR: 'it returns false'. Refute it at one input. -/
def streamNamesWrong : ChangeSpec := { name := "streamNames", fn := fun _ => fun
  | [] => { results := [.lit (.bool false)], args := [] }
  | _ => none }
def StreamNamesWrongFalsely : Prop := streamNamesRow.holds Try.pinned (OpenSpec.ofChange streamNamesWrong)

/-- 'towncrierlaw21.StreamApart': WHATEVER THE INPUT: true; the input reads as it did. -/
def streamApartSpec : ChangeSpec := { name := "streamApart", fn := fun _ => fun
  | [d1, d2, d3, d4, d5, d6] => { results := [.lit (.bool true)], args := [d1, d2, d3, d4, d5, d6] }
  | _ => none }
def streamApartRow : OpenClaim := { program := "ytblgmjbajnkcdaa", sum := "4ecbbc63030b8402ce5ed74adbe3331dfda96d5e1365af15245d66b2838b397a", func := "towncrier/towncrierlaw21.StreamApart", spec := "streamApart", unfollowed := true, recurses := true, apart := false }
def StreamApartSaid : Prop := streamApartRow.holds Try.pinned (OpenSpec.ofChange streamApartSpec)

/-- ITS FALSE NEIGHBOUR: 'it returns false'. Refute it at one input. -/
def streamApartWrong : ChangeSpec := { name := "streamApart", fn := fun _ => fun
  | [d1, d2, d3, d4, d5, d6] => { results := [.lit (.bool false)], args := [d1, d2, d3, d4, d5, d6] }
  | _ => none }
def StreamApartWrongFalsely : Prop := streamApartRow.holds Try.pinned (OpenSpec.ofChange streamApartWrong)

/- THE SECOND FORM. 'bulk': how many values and letters a reading holds, each counted each time it is reached (what is shared counts as often as it is met; a slice's spare places count too). A statement '..UptoSaid' is the law's where the arguments, and the package variables that the reading takes, are together of bulk at most 1048576: NARROWER than '..Said'. Prove '..Said' where nothing that the law and all that it calls make is longer than what came in: it says more and counts as full. Else prove '..UptoSaid'. A law counts once. -/
mutual
def uptoBulk {H : Type} : DataW H → Nat
  | .lit (.string bytes) => bytes.length + 1
  | .lit _ => 1
  | .nil => 1
  | .ptr d => uptoBulk d + 1
  | .slice elems spare => uptoBulkAll elems + uptoBulkAll spare + 1
  | .agg parts => uptoBulkAll parts + 1
  | .iface _ d => uptoBulk d + 1
  | .map entries => uptoBulkEntries entries + 1
  | .held _ => 1
def uptoBulkAll {H : Type} : List (DataW H) → Nat
  | [] => 0
  | d :: r => uptoBulk d + uptoBulkAll r
def uptoBulkEntries {H : Type} : List (Lit × DataW H) → Nat
  | [] => 0
  | x :: r => uptoBulkEntry x + uptoBulkEntries r
def uptoBulkEntry {H : Type} : Lit × DataW H → Nat
  | (.string bytes, d) => bytes.length + uptoBulk d + 1
  | (_, d) => uptoBulk d + 1
 end
def uptoSmall : (H : Type) → List (DataW H) → Bool := fun _ ds => decide (uptoBulkAll ds ≤ 1048576)
def OpenSpec.upto (s : _root_.Go.ChangeSpec) : _root_.Go.OpenSpec := { _root_.Go.OpenSpec.ofChange s with cond := some uptoSmall }

/-- 'towncrierlaw21.StreamTells', WHERE WHAT IT READS IS OF BULK AT MOST 1048576: true; the input reads as it did. -/
def streamTellsUptoRow : OpenClaim := { program := "ytblgmjbajnkcdaa", sum := "4ecbbc63030b8402ce5ed74adbe3331dfda96d5e1365af15245d66b2838b397a", func := "towncrier/towncrierlaw21.StreamTells", spec := "streamTells", unfollowed := true, recurses := true, apart := false, narrowed := true }
def StreamTellsUptoSaid : Prop := streamTellsUptoRow.holds Try.pinned (OpenSpec.upto streamTellsSpec)

/-- 'towncrierlaw21.StreamRuns', WHERE WHAT IT READS IS OF BULK AT MOST 1048576: true; the input reads as it did. -/
def streamRunsUptoRow : OpenClaim := { program := "ytblgmjbajnkcdaa", sum := "4ecbbc63030b8402ce5ed74adbe3331dfda96d5e1365af15245d66b2838b397a", func := "towncrier/towncrierlaw21.StreamRuns", spec := "streamRuns", unfollowed := true, recurses := true, apart := false, narrowed := true }
def StreamRunsUptoSaid : Prop := streamRunsUptoRow.holds Try.pinned (OpenSpec.upto streamRunsSpec)

/-- 'towncrierlaw21.StreamTurns', WHERE WHAT IT READS IS OF BULK AT MOST 1048576: true; the input reads as it did. -/
def streamTurnsUptoRow : OpenClaim := { program := "ytblgmjbajnkcdaa", sum := "4ecbbc63030b8402ce5ed74adbe3331dfda96d5e1365af15245d66b2838b397a", func := "towncrier/towncrierlaw21.StreamTurns", spec := "streamTurns", unfollowed := true, recurses := true, apart := false, narrowed := true }
def StreamTurnsUptoSaid : Prop := streamTurnsUptoRow.holds Try.pinned (OpenSpec.upto streamTurnsSpec)

/-- 'towncrierlaw21.StreamNames', WHERE WHAT IT READS IS OF BULK AT MOST 1048576: true; the input reads as it did. -/
def streamNamesUptoRow : OpenClaim := { program := "ytblgmjbajnkcdaa", sum := "4ecbbc63030b8402ce5ed74adbe3331dfda96d5e1365af15245d66b2838b397a", func := "towncrier/towncrierlaw21.StreamNames", spec := "streamNames", unfollowed := true, recurses := true, apart := false, narrowed := true }
def StreamNamesUptoSaid : Prop := streamNamesUptoRow.holds Try.pinned (OpenSpec.upto streamNamesSpec)

/-- 'towncrierlaw21.StreamApart', WHERE WHAT IT READS IS OF BULK AT MOST 1048576: true; the input reads as it did. -/
def streamApartUptoRow : OpenClaim := { program := "ytblgmjbajnkcdaa", sum := "4ecbbc63030b8402ce5ed74adbe3331dfda96d5e1365af15245d66b2838b397a", func := "towncrier/towncrierlaw21.StreamApart", spec := "streamApart", unfollowed := true, recurses := true, apart := false, narrowed := true }
def StreamApartUptoSaid : Prop := streamApartUptoRow.holds Try.pinned (OpenSpec.upto streamApartSpec)

end Rows
end Go.Proofs.Ytblgmjbajnkcdaa
