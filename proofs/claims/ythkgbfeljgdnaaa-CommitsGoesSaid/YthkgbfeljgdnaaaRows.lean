/-
  No cell of these rows narrows 'for every input' (looked for: loops, veiled, ifaces, maps, wideKeys, modest, calm, conditions, laid).
  DERIVED. THE GIVEN ROWS OF THIS SEAT. 10 by the template 'for every input the law returns true; each argument reads behind the call as it read before'; 0 by the template 'total and deterministic' (their statements: YthkgbfeljgdnaaaTotals.lean).
  GIVEN WITH THE SEED: the statements are not yours to turn. If you find one false, say at which input.
  Laid BY PROGRAM, IN A SANDBOX (cutbox-rows.mjs): the forced cells as the released guide's own fill.sh prints them over the translation 73d27ad1ed556af1… (all of the seat's roots in one cut). By AI agents, Wed Nov 11 2026. No macro, syntax, notation, axiom, sorry.
-/
import Derived.Test.YthkgbfeljgdnaaaChecked
import GoSem.Claim
import GoSem.ClaimJoined
import GoSem.ClaimMapViews
import Derived.JoinedTies
import Derived.KernelRfl
namespace Go.Proofs.Ythkgbfeljgdnaaa
/- THE CELL 'sum', in the pinned program and in every row, IS THE sha256 OF THE DUMP (.gsa) THAT YthkgbfeljgdnaaaProg.lean LOADS. Nothing in Lean hashes anything: it is a label: what it is worth is what the hold of that sum in a sandbox is worth. -/
noncomputable def Try.pinned : Pinned := { name := "ythkgbfeljgdnaaa", sum := "73d27ad1ed556af1640653d0cfc26c150bd6691d9af62eb8989c1e28084b56b2", checked := Try.checked }
namespace Rows
def none {H : Type} : Left H := { results := [], args := [] }

/-- 'towncrierlaw14.StampIds': WHATEVER THE INPUT: true; the input reads as it did. -/
def stampIdsSpec : ChangeSpec := { name := "stampIds", fn := fun _ => fun
  | [d1, d2, d3] => { results := [.lit (.bool true)], args := [d1, d2, d3] }
  | _ => none }
def stampIdsRow : OpenClaim := { program := "ythkgbfeljgdnaaa", sum := "73d27ad1ed556af1640653d0cfc26c150bd6691d9af62eb8989c1e28084b56b2", func := "towncrier/towncrierlaw14.StampIds", spec := "stampIds", apart := false }
def StampIdsSaid : Prop := stampIdsRow.holds Try.pinned (OpenSpec.ofChange stampIdsSpec)

/-- ITS FALSE NEIGHBOUR: 'it returns false'. Refute it at one input. -/
def stampIdsWrong : ChangeSpec := { name := "stampIds", fn := fun _ => fun
  | [d1, d2, d3] => { results := [.lit (.bool false)], args := [d1, d2, d3] }
  | _ => none }
def StampIdsWrongFalsely : Prop := stampIdsRow.holds Try.pinned (OpenSpec.ofChange stampIdsWrong)

/-- 'towncrierlaw14.StampOrder': WHATEVER THE INPUT: true; the input reads as it did. -/
def stampOrderSpec : ChangeSpec := { name := "stampOrder", fn := fun _ => fun
  | [d1, d2, d3] => { results := [.lit (.bool true)], args := [d1, d2, d3] }
  | _ => none }
def stampOrderRow : OpenClaim := { program := "ythkgbfeljgdnaaa", sum := "73d27ad1ed556af1640653d0cfc26c150bd6691d9af62eb8989c1e28084b56b2", func := "towncrier/towncrierlaw14.StampOrder", spec := "stampOrder", apart := false }
def StampOrderSaid : Prop := stampOrderRow.holds Try.pinned (OpenSpec.ofChange stampOrderSpec)

/-- ITS FALSE NEIGHBOUR: 'it returns false'. Refute it at one input. -/
def stampOrderWrong : ChangeSpec := { name := "stampOrder", fn := fun _ => fun
  | [d1, d2, d3] => { results := [.lit (.bool false)], args := [d1, d2, d3] }
  | _ => none }
def StampOrderWrongFalsely : Prop := stampOrderRow.holds Try.pinned (OpenSpec.ofChange stampOrderWrong)

/-- 'towncrierlaw14.StampRises': WHATEVER THE INPUT: true; the input reads as it did. -/
def stampRisesSpec : ChangeSpec := { name := "stampRises", fn := fun _ => fun
  | [d1, d2, d3] => { results := [.lit (.bool true)], args := [d1, d2, d3] }
  | _ => none }
def stampRisesRow : OpenClaim := { program := "ythkgbfeljgdnaaa", sum := "73d27ad1ed556af1640653d0cfc26c150bd6691d9af62eb8989c1e28084b56b2", func := "towncrier/towncrierlaw14.StampRises", spec := "stampRises", apart := false }
def StampRisesSaid : Prop := stampRisesRow.holds Try.pinned (OpenSpec.ofChange stampRisesSpec)

/-- ITS FALSE NEIGHBOUR: 'it returns false'. Refute it at one input. -/
def stampRisesWrong : ChangeSpec := { name := "stampRises", fn := fun _ => fun
  | [d1, d2, d3] => { results := [.lit (.bool false)], args := [d1, d2, d3] }
  | _ => none }
def StampRisesWrongFalsely : Prop := stampRisesRow.holds Try.pinned (OpenSpec.ofChange stampRisesWrong)

/-- 'towncrierlaw14.StampOne': WHATEVER THE INPUT: true; the input reads as it did. -/
def stampOneSpec : ChangeSpec := { name := "stampOne", fn := fun _ => fun
  | [d1, d2, d3] => { results := [.lit (.bool true)], args := [d1, d2, d3] }
  | _ => none }
def stampOneRow : OpenClaim := { program := "ythkgbfeljgdnaaa", sum := "73d27ad1ed556af1640653d0cfc26c150bd6691d9af62eb8989c1e28084b56b2", func := "towncrier/towncrierlaw14.StampOne", spec := "stampOne", apart := false }
def StampOneSaid : Prop := stampOneRow.holds Try.pinned (OpenSpec.ofChange stampOneSpec)

/-- ITS FALSE NEIGHBOUR: 'it returns false'. Refute it at one input. -/
def stampOneWrong : ChangeSpec := { name := "stampOne", fn := fun _ => fun
  | [d1, d2, d3] => { results := [.lit (.bool false)], args := [d1, d2, d3] }
  | _ => none }
def StampOneWrongFalsely : Prop := stampOneRow.holds Try.pinned (OpenSpec.ofChange stampOneWrong)

/-- 'towncrierlaw14.StampTells': WHATEVER THE INPUT: true; the input reads as it did. -/
def stampTellsSpec : ChangeSpec := { name := "stampTells", fn := fun _ => fun
  | [d1, d2, d3] => { results := [.lit (.bool true)], args := [d1, d2, d3] }
  | _ => none }
def stampTellsRow : OpenClaim := { program := "ythkgbfeljgdnaaa", sum := "73d27ad1ed556af1640653d0cfc26c150bd6691d9af62eb8989c1e28084b56b2", func := "towncrier/towncrierlaw14.StampTells", spec := "stampTells", apart := false }
def StampTellsSaid : Prop := stampTellsRow.holds Try.pinned (OpenSpec.ofChange stampTellsSpec)

/-- ITS FALSE NEIGHBOUR: 'it returns false'. Refute it at one input. -/
def stampTellsWrong : ChangeSpec := { name := "stampTells", fn := fun _ => fun
  | [d1, d2, d3] => { results := [.lit (.bool false)], args := [d1, d2, d3] }
  | _ => none }
def StampTellsWrongFalsely : Prop := stampTellsRow.holds Try.pinned (OpenSpec.ofChange stampTellsWrong)

/-- 'towncrierlaw20.CommitsNames': WHATEVER THE INPUT: true; the input reads as it did. -/
def commitsNamesSpec : ChangeSpec := { name := "commitsNames", fn := fun _ => fun
  | [] => { results := [.lit (.bool true)], args := [] }
  | _ => none }
def commitsNamesRow : OpenClaim := { program := "ythkgbfeljgdnaaa", sum := "73d27ad1ed556af1640653d0cfc26c150bd6691d9af62eb8989c1e28084b56b2", func := "towncrier/towncrierlaw20.CommitsNames", spec := "commitsNames", unfollowed := true, recurses := true, apart := false }
def CommitsNamesSaid : Prop := commitsNamesRow.holds Try.pinned (OpenSpec.ofChange commitsNamesSpec)

/-- ITS FALSE NEIGHBOUR: 'it returns false'. Refute it at one input. -/
def commitsNamesWrong : ChangeSpec := { name := "commitsNames", fn := fun _ => fun
  | [] => { results := [.lit (.bool false)], args := [] }
  | _ => none }
def CommitsNamesWrongFalsely : Prop := commitsNamesRow.holds Try.pinned (OpenSpec.ofChange commitsNamesWrong)

/-- 'towncrierlaw20.CommitsRise': WHATEVER THE INPUT: true; the input reads as it did. -/
def commitsRiseSpec : ChangeSpec := { name := "commitsRise", fn := fun _ => fun
  | [d1, d2, d3, d4, d5, d6] => { results := [.lit (.bool true)], args := [d1, d2, d3, d4, d5, d6] }
  | _ => none }
def commitsRiseRow : OpenClaim := { program := "ythkgbfeljgdnaaa", sum := "73d27ad1ed556af1640653d0cfc26c150bd6691d9af62eb8989c1e28084b56b2", func := "towncrier/towncrierlaw20.CommitsRise", spec := "commitsRise", unfollowed := true, recurses := true, apart := false }
def CommitsRiseSaid : Prop := commitsRiseRow.holds Try.pinned (OpenSpec.ofChange commitsRiseSpec)

/-- ITS FALSE NEIGHBOUR: 'it returns false'. Refute it at one input. -/
def commitsRiseWrong : ChangeSpec := { name := "commitsRise", fn := fun _ => fun
  | [d1, d2, d3, d4, d5, d6] => { results := [.lit (.bool false)], args := [d1, d2, d3, d4, d5, d6] }
  | _ => none }
def CommitsRiseWrongFalsely : Prop := commitsRiseRow.holds Try.pinned (OpenSpec.ofChange commitsRiseWrong)

/-- 'towncrierlaw14.StampNames': WHATEVER THE INPUT: true; the input reads as it did. -/
def stampNamesSpec : ChangeSpec := { name := "stampNames", fn := fun _ => fun
  | [] => { results := [.lit (.bool true)], args := [] }
  | _ => none }
def stampNamesRow : OpenClaim := { program := "ythkgbfeljgdnaaa", sum := "73d27ad1ed556af1640653d0cfc26c150bd6691d9af62eb8989c1e28084b56b2", func := "towncrier/towncrierlaw14.StampNames", spec := "stampNames", apart := false }
def StampNamesSaid : Prop := stampNamesRow.holds Try.pinned (OpenSpec.ofChange stampNamesSpec)

/-- ITS FALSE NEIGHBOUR: 'it returns false'. Refute it at one input. -/
def stampNamesWrong : ChangeSpec := { name := "stampNames", fn := fun _ => fun
  | [] => { results := [.lit (.bool false)], args := [] }
  | _ => none }
def StampNamesWrongFalsely : Prop := stampNamesRow.holds Try.pinned (OpenSpec.ofChange stampNamesWrong)

/-- 'towncrierlaw20.CommitsGoes': WHATEVER THE INPUT: true; the input reads as it did. -/
def commitsGoesSpec : ChangeSpec := { name := "commitsGoes", fn := fun _ => fun
  | [d1, d2, d3, d4, d5] => { results := [.lit (.bool true)], args := [d1, d2, d3, d4, d5] }
  | _ => none }
def commitsGoesRow : OpenClaim := { program := "ythkgbfeljgdnaaa", sum := "73d27ad1ed556af1640653d0cfc26c150bd6691d9af62eb8989c1e28084b56b2", func := "towncrier/towncrierlaw20.CommitsGoes", spec := "commitsGoes", unfollowed := true, recurses := true, apart := false }
def CommitsGoesSaid : Prop := commitsGoesRow.holds Try.pinned (OpenSpec.ofChange commitsGoesSpec)

/-- ITS FALSE NEIGHBOUR: 'it returns false'. Refute it at one input. -/
def commitsGoesWrong : ChangeSpec := { name := "commitsGoes", fn := fun _ => fun
  | [d1, d2, d3, d4, d5] => { results := [.lit (.bool false)], args := [d1, d2, d3, d4, d5] }
  | _ => none }
def CommitsGoesWrongFalsely : Prop := commitsGoesRow.holds Try.pinned (OpenSpec.ofChange commitsGoesWrong)

/-- 'towncrierlaw20.CommitsOrder': WHATEVER THE INPUT: true; the input reads as it did. -/
def commitsOrderSpec : ChangeSpec := { name := "commitsOrder", fn := fun _ => fun
  | [d1, d2, d3, d4, d5, d6, d7] => { results := [.lit (.bool true)], args := [d1, d2, d3, d4, d5, d6, d7] }
  | _ => none }
def commitsOrderRow : OpenClaim := { program := "ythkgbfeljgdnaaa", sum := "73d27ad1ed556af1640653d0cfc26c150bd6691d9af62eb8989c1e28084b56b2", func := "towncrier/towncrierlaw20.CommitsOrder", spec := "commitsOrder", unfollowed := true, recurses := true, apart := false }
def CommitsOrderSaid : Prop := commitsOrderRow.holds Try.pinned (OpenSpec.ofChange commitsOrderSpec)

/-- ITS FALSE NEIGHBOUR: 'it returns false'. Refute it at one input. -/
def commitsOrderWrong : ChangeSpec := { name := "commitsOrder", fn := fun _ => fun
  | [d1, d2, d3, d4, d5, d6, d7] => { results := [.lit (.bool false)], args := [d1, d2, d3, d4, d5, d6, d7] }
  | _ => none }
def CommitsOrderWrongFalsely : Prop := commitsOrderRow.holds Try.pinned (OpenSpec.ofChange commitsOrderWrong)

/- THE SECOND FORM. 'bulk': how many values and letters a reading holds, each counted each time it is reached (what is shared counts as often as it is met; a slice's spare places count too). A statement '..UptoSaid' is the law's where the arguments, and the package variables that the reading takes, are together of bulk at most 1048576: NARROWER than '..Said'. Prove '..Said' where nothing that the law and all that it calls make is longer than what came in: it says more and counts as full. Else prove '..UptoSaid'. A law counts once. -/
mutual
def uptoBulk {H : Type} : DataW H → Nat
  | .lit (.string bytes) => bytes.length + 1
  | .lit _ => 1
  | .nil => 1
  | .ptr d => uptoBulk d + 1
  | .slice elems spare => uptoBulkAll elems + uptoBulkAll spare + 1
  | .agg parts => uptoBulkAll parts + 1
  | .iface _ d => uptoBulk d + 1
  | .map entries => uptoBulkEntries entries + 1
  | .held _ => 1
def uptoBulkAll {H : Type} : List (DataW H) → Nat
  | [] => 0
  | d :: r => uptoBulk d + uptoBulkAll r
def uptoBulkEntries {H : Type} : List (Lit × DataW H) → Nat
  | [] => 0
  | x :: r => uptoBulkEntry x + uptoBulkEntries r
def uptoBulkEntry {H : Type} : Lit × DataW H → Nat
  | (.string bytes, d) => bytes.length + uptoBulk d + 1
  | (_, d) => uptoBulk d + 1
 end
def uptoSmall : (H : Type) → List (DataW H) → Bool := fun _ ds => decide (uptoBulkAll ds ≤ 1048576)
def OpenSpec.upto (s : _root_.Go.ChangeSpec) : _root_.Go.OpenSpec := { _root_.Go.OpenSpec.ofChange s with cond := some uptoSmall }

/-- 'towncrierlaw14.StampIds', WHERE WHAT IT READS IS OF BULK AT MOST 1048576: true; the input reads as it did. -/
def stampIdsUptoRow : OpenClaim := { program := "ythkgbfeljgdnaaa", sum := "73d27ad1ed556af1640653d0cfc26c150bd6691d9af62eb8989c1e28084b56b2", func := "towncrier/towncrierlaw14.StampIds", spec := "stampIds", apart := false, narrowed := true }
def StampIdsUptoSaid : Prop := stampIdsUptoRow.holds Try.pinned (OpenSpec.upto stampIdsSpec)

/-- 'towncrierlaw14.StampOrder', WHERE WHAT IT READS IS OF BULK AT MOST 1048576: true; the input reads as it did. -/
def stampOrderUptoRow : OpenClaim := { program := "ythkgbfeljgdnaaa", sum := "73d27ad1ed556af1640653d0cfc26c150bd6691d9af62eb8989c1e28084b56b2", func := "towncrier/towncrierlaw14.StampOrder", spec := "stampOrder", apart := false, narrowed := true }
def StampOrderUptoSaid : Prop := stampOrderUptoRow.holds Try.pinned (OpenSpec.upto stampOrderSpec)

/-- 'towncrierlaw14.StampRises', WHERE WHAT IT READS IS OF BULK AT MOST 1048576: true; the input reads as it did. -/
def stampRisesUptoRow : OpenClaim := { program := "ythkgbfeljgdnaaa", sum := "73d27ad1ed556af1640653d0cfc26c150bd6691d9af62eb8989c1e28084b56b2", func := "towncrier/towncrierlaw14.StampRises", spec := "stampRises", apart := false, narrowed := true }
def StampRisesUptoSaid : Prop := stampRisesUptoRow.holds Try.pinned (OpenSpec.upto stampRisesSpec)

/-- 'towncrierlaw14.StampOne', WHERE WHAT IT READS IS OF BULK AT MOST 1048576: true; the input reads as it did. -/
def stampOneUptoRow : OpenClaim := { program := "ythkgbfeljgdnaaa", sum := "73d27ad1ed556af1640653d0cfc26c150bd6691d9af62eb8989c1e28084b56b2", func := "towncrier/towncrierlaw14.StampOne", spec := "stampOne", apart := false, narrowed := true }
def StampOneUptoSaid : Prop := stampOneUptoRow.holds Try.pinned (OpenSpec.upto stampOneSpec)

/-- 'towncrierlaw14.StampTells', WHERE WHAT IT READS IS OF BULK AT MOST 1048576: true; the input reads as it did. -/
def stampTellsUptoRow : OpenClaim := { program := "ythkgbfeljgdnaaa", sum := "73d27ad1ed556af1640653d0cfc26c150bd6691d9af62eb8989c1e28084b56b2", func := "towncrier/towncrierlaw14.StampTells", spec := "stampTells", apart := false, narrowed := true }
def StampTellsUptoSaid : Prop := stampTellsUptoRow.holds Try.pinned (OpenSpec.upto stampTellsSpec)

/-- 'towncrierlaw20.CommitsNames', WHERE WHAT IT READS IS OF BULK AT MOST 1048576: true; the input reads as it did. -/
def commitsNamesUptoRow : OpenClaim := { program := "ythkgbfeljgdnaaa", sum := "73d27ad1ed556af1640653d0cfc26c150bd6691d9af62eb8989c1e28084b56b2", func := "towncrier/towncrierlaw20.CommitsNames", spec := "commitsNames", unfollowed := true, recurses := true, apart := false, narrowed := true }
def CommitsNamesUptoSaid : Prop := commitsNamesUptoRow.holds Try.pinned (OpenSpec.upto commitsNamesSpec)

/-- 'towncrierlaw20.CommitsRise', WHERE WHAT IT READS IS OF BULK AT MOST 1048576: true; the input reads as it did. -/
def commitsRiseUptoRow : OpenClaim := { program := "ythkgbfeljgdnaaa", sum := "73d27ad1ed556af1640653d0cfc26c150bd6691d9af62eb8989c1e28084b56b2", func := "towncrier/towncrierlaw20.CommitsRise", spec := "commitsRise", unfollowed := true, recurses := true, apart := false, narrowed := true }
def CommitsRiseUptoSaid : Prop := commitsRiseUptoRow.holds Try.pinned (OpenSpec.upto commitsRiseSpec)

/-- 'towncrierlaw14.StampNames', WHERE WHAT IT READS IS OF BULK AT MOST 1048576: true; the input reads as it did. -/
def stampNamesUptoRow : OpenClaim := { program := "ythkgbfeljgdnaaa", sum := "73d27ad1ed556af1640653d0cfc26c150bd6691d9af62eb8989c1e28084b56b2", func := "towncrier/towncrierlaw14.StampNames", spec := "stampNames", apart := false, narrowed := true }
def StampNamesUptoSaid : Prop := stampNamesUptoRow.holds Try.pinned (OpenSpec.upto stampNamesSpec)

/-- 'towncrierlaw20.CommitsGoes', WHERE WHAT IT READS IS OF BULK AT MOST 1048576: true; the input reads as it did. -/
def commitsGoesUptoRow : OpenClaim := { program := "ythkgbfeljgdnaaa", sum := "73d27ad1ed556af1640653d0cfc26c150bd6691d9af62eb8989c1e28084b56b2", func := "towncrier/towncrierlaw20.CommitsGoes", spec := "commitsGoes", unfollowed := true, recurses := true, apart := false, narrowed := true }
def CommitsGoesUptoSaid : Prop := commitsGoesUptoRow.holds Try.pinned (OpenSpec.upto commitsGoesSpec)

/-- 'towncrierlaw20.CommitsOrder', WHERE WHAT IT READS IS OF BULK AT MOST 1048576: true; the input reads as it did. -/
def commitsOrderUptoRow : OpenClaim := { program := "ythkgbfeljgdnaaa", sum := "73d27ad1ed556af1640653d0cfc26c150bd6691d9af62eb8989c1e28084b56b2", func := "towncrier/towncrierlaw20.CommitsOrder", spec := "commitsOrder", unfollowed := true, recurses := true, apart := false, narrowed := true }
def CommitsOrderUptoSaid : Prop := commitsOrderUptoRow.holds Try.pinned (OpenSpec.upto commitsOrderSpec)

end Rows
end Go.Proofs.Ythkgbfeljgdnaaa
