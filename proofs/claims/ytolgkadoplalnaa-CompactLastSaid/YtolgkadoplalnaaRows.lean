/-
  No cell of these rows narrows 'for every input' (looked for: loops, veiled, ifaces, maps, wideKeys, modest, calm, conditions, laid).
  DERIVED. THE GIVEN ROWS OF THIS SEAT. 13 by the template 'for every input the law returns true; each argument reads behind the call as it read before'; 0 by the template 'total and deterministic' (their statements: YtolgkadoplalnaaTotals.lean).
  GIVEN WITH THE SEED: the statements are not yours to turn. If you find one false, say at which input.
  Laid BY PROGRAM, IN A SANDBOX (cutbox-rows.mjs): the forced cells as the released guide's own fill.sh prints them over the translation 7dd1783d75239650… (all of the seat's roots in one cut). By AI agents, Wed Nov 11 2026. No macro, syntax, notation, axiom, sorry.
-/
import Derived.Test.YtolgkadoplalnaaChecked
import GoSem.Claim
import GoSem.ClaimJoined
import GoSem.ClaimMapViews
import Derived.JoinedTies
import Derived.KernelRfl
namespace Go.Proofs.Ytolgkadoplalnaa
/- THE CELL 'sum', in the pinned program and in every row, IS THE sha256 OF THE DUMP (.gsa) THAT YtolgkadoplalnaaProg.lean LOADS. Nothing in Lean hashes anything: it is a label: what it is worth is what the hold of that sum in a sandbox is worth. -/
noncomputable def Try.pinned : Pinned := { name := "ytolgkadoplalnaa", sum := "7dd1783d75239650380a16019c4eb650e35dc84a8d8f63fcb26134b0b3593666", checked := Try.checked }
namespace Rows
def none {H : Type} : Left H := { results := [], args := [] }

/-- 'towncrierlaw18.KeepTrims': WHATEVER THE INPUT: true; the input reads as it did. -/
def keepTrimsSpec : ChangeSpec := { name := "keepTrims", fn := fun _ => fun
  | [d1, d2] => { results := [.lit (.bool true)], args := [d1, d2] }
  | _ => none }
def keepTrimsRow : OpenClaim := { program := "ytolgkadoplalnaa", sum := "7dd1783d75239650380a16019c4eb650e35dc84a8d8f63fcb26134b0b3593666", func := "towncrier/towncrierlaw18.KeepTrims", spec := "keepTrims", unfollowed := true, recurses := true, apart := false }
def KeepTrimsSaid : Prop := keepTrimsRow.holds Try.pinned (OpenSpec.ofChange keepTrimsSpec)

/-- ITS FALSE NEIGHBOUR: 'it returns false'. Refute it at one input. -/
def keepTrimsWrong : ChangeSpec := { name := "keepTrims", fn := fun _ => fun
  | [d1, d2] => { results := [.lit (.bool false)], args := [d1, d2] }
  | _ => none }
def KeepTrimsWrongFalsely : Prop := keepTrimsRow.holds Try.pinned (OpenSpec.ofChange keepTrimsWrong)

/-- 'towncrierlaw19.CompactDoes': WHATEVER THE INPUT: true; the input reads as it did. -/
def compactDoesSpec : ChangeSpec := { name := "compactDoes", fn := fun _ => fun
  | [d1, d2, d3, d4] => { results := [.lit (.bool true)], args := [d1, d2, d3, d4] }
  | _ => none }
def compactDoesRow : OpenClaim := { program := "ytolgkadoplalnaa", sum := "7dd1783d75239650380a16019c4eb650e35dc84a8d8f63fcb26134b0b3593666", func := "towncrier/towncrierlaw19.CompactDoes", spec := "compactDoes", unfollowed := true, recurses := true, apart := false }
def CompactDoesSaid : Prop := compactDoesRow.holds Try.pinned (OpenSpec.ofChange compactDoesSpec)

/-- ITS FALSE NEIGHBOUR: 'it returns false'. Refute it at one input. -/
def compactDoesWrong : ChangeSpec := { name := "compactDoes", fn := fun _ => fun
  | [d1, d2, d3, d4] => { results := [.lit (.bool false)], args := [d1, d2, d3, d4] }
  | _ => none }
def CompactDoesWrongFalsely : Prop := compactDoesRow.holds Try.pinned (OpenSpec.ofChange compactDoesWrong)

/-- 'towncrierlaw19.CompactNames': WHATEVER THE INPUT: true; the input reads as it did. -/
def compactNamesSpec : ChangeSpec := { name := "compactNames", fn := fun _ => fun
  | [] => { results := [.lit (.bool true)], args := [] }
  | _ => none }
def compactNamesRow : OpenClaim := { program := "ytolgkadoplalnaa", sum := "7dd1783d75239650380a16019c4eb650e35dc84a8d8f63fcb26134b0b3593666", func := "towncrier/towncrierlaw19.CompactNames", spec := "compactNames", unfollowed := true, recurses := true, apart := false }
def CompactNamesSaid : Prop := compactNamesRow.holds Try.pinned (OpenSpec.ofChange compactNamesSpec)

/-- ITS FALSE NEIGHBOUR: 'it returns false'. Refute it at one input. -/
def compactNamesWrong : ChangeSpec := { name := "compactNames", fn := fun _ => fun
  | [] => { results := [.lit (.bool false)], args := [] }
  | _ => none }
def CompactNamesWrongFalsely : Prop := compactNamesRow.holds Try.pinned (OpenSpec.ofChange compactNamesWrong)

/-- 'towncrierlaw19.CompactTwice': WHATEVER THE INPUT: true; the input reads as it did. -/
def compactTwiceSpec : ChangeSpec := { name := "compactTwice", fn := fun _ => fun
  | [d1, d2, d3] => { results := [.lit (.bool true)], args := [d1, d2, d3] }
  | _ => none }
def compactTwiceRow : OpenClaim := { program := "ytolgkadoplalnaa", sum := "7dd1783d75239650380a16019c4eb650e35dc84a8d8f63fcb26134b0b3593666", func := "towncrier/towncrierlaw19.CompactTwice", spec := "compactTwice", unfollowed := true, recurses := true, apart := false }
def CompactTwiceSaid : Prop := compactTwiceRow.holds Try.pinned (OpenSpec.ofChange compactTwiceSpec)

/-- ITS FALSE NEIGHBOUR: 'it returns false'. Refute it at one input. -/
def compactTwiceWrong : ChangeSpec := { name := "compactTwice", fn := fun _ => fun
  | [d1, d2, d3] => { results := [.lit (.bool false)], args := [d1, d2, d3] }
  | _ => none }
def CompactTwiceWrongFalsely : Prop := compactTwiceRow.holds Try.pinned (OpenSpec.ofChange compactTwiceWrong)

/-- 'towncrierlaw17.TopicNames': WHATEVER THE INPUT: true; the input reads as it did. -/
def topicNamesSpec : ChangeSpec := { name := "topicNames", fn := fun _ => fun
  | [] => { results := [.lit (.bool true)], args := [] }
  | _ => none }
def topicNamesRow : OpenClaim := { program := "ytolgkadoplalnaa", sum := "7dd1783d75239650380a16019c4eb650e35dc84a8d8f63fcb26134b0b3593666", func := "towncrier/towncrierlaw17.TopicNames", spec := "topicNames", unfollowed := true, recurses := true, apart := false }
def TopicNamesSaid : Prop := topicNamesRow.holds Try.pinned (OpenSpec.ofChange topicNamesSpec)

/-- ITS FALSE NEIGHBOUR: 'it returns false'. Refute it at one input. -/
def topicNamesWrong : ChangeSpec := { name := "topicNames", fn := fun _ => fun
  | [] => { results := [.lit (.bool false)], args := [] }
  | _ => none }
def TopicNamesWrongFalsely : Prop := topicNamesRow.holds Try.pinned (OpenSpec.ofChange topicNamesWrong)

/-- 'towncrierlaw17.TopicFew': WHATEVER THE INPUT: true; the input reads as it did. -/
def topicFewSpec : ChangeSpec := { name := "topicFew", fn := fun _ => fun
  | [d1, d2] => { results := [.lit (.bool true)], args := [d1, d2] }
  | _ => none }
def topicFewRow : OpenClaim := { program := "ytolgkadoplalnaa", sum := "7dd1783d75239650380a16019c4eb650e35dc84a8d8f63fcb26134b0b3593666", func := "towncrier/towncrierlaw17.TopicFew", spec := "topicFew", unfollowed := true, recurses := true, apart := false }
def TopicFewSaid : Prop := topicFewRow.holds Try.pinned (OpenSpec.ofChange topicFewSpec)

/-- ITS FALSE NEIGHBOUR: 'it returns false'. Refute it at one input. -/
def topicFewWrong : ChangeSpec := { name := "topicFew", fn := fun _ => fun
  | [d1, d2] => { results := [.lit (.bool false)], args := [d1, d2] }
  | _ => none }
def TopicFewWrongFalsely : Prop := topicFewRow.holds Try.pinned (OpenSpec.ofChange topicFewWrong)

/-- 'towncrierlaw17.TopicGoes': WHATEVER THE INPUT: true; the input reads as it did. -/
def topicGoesSpec : ChangeSpec := { name := "topicGoes", fn := fun _ => fun
  | [d1, d2, d3, d4, d5, d6] => { results := [.lit (.bool true)], args := [d1, d2, d3, d4, d5, d6] }
  | _ => none }
def topicGoesRow : OpenClaim := { program := "ytolgkadoplalnaa", sum := "7dd1783d75239650380a16019c4eb650e35dc84a8d8f63fcb26134b0b3593666", func := "towncrier/towncrierlaw17.TopicGoes", spec := "topicGoes", unfollowed := true, recurses := true, apart := false }
def TopicGoesSaid : Prop := topicGoesRow.holds Try.pinned (OpenSpec.ofChange topicGoesSpec)

/-- ITS FALSE NEIGHBOUR: 'it returns false'. Refute it at one input. -/
def topicGoesWrong : ChangeSpec := { name := "topicGoes", fn := fun _ => fun
  | [d1, d2, d3, d4, d5, d6] => { results := [.lit (.bool false)], args := [d1, d2, d3, d4, d5, d6] }
  | _ => none }
def TopicGoesWrongFalsely : Prop := topicGoesRow.holds Try.pinned (OpenSpec.ofChange topicGoesWrong)

/-- 'towncrierlaw17.TopicKeeps': WHATEVER THE INPUT: true; the input reads as it did. -/
def topicKeepsSpec : ChangeSpec := { name := "topicKeeps", fn := fun _ => fun
  | [d1, d2, d3, d4, d5] => { results := [.lit (.bool true)], args := [d1, d2, d3, d4, d5] }
  | _ => none }
def topicKeepsRow : OpenClaim := { program := "ytolgkadoplalnaa", sum := "7dd1783d75239650380a16019c4eb650e35dc84a8d8f63fcb26134b0b3593666", func := "towncrier/towncrierlaw17.TopicKeeps", spec := "topicKeeps", unfollowed := true, recurses := true, apart := false }
def TopicKeepsSaid : Prop := topicKeepsRow.holds Try.pinned (OpenSpec.ofChange topicKeepsSpec)

/-- ITS FALSE NEIGHBOUR: 'it returns false'. Refute it at one input. -/
def topicKeepsWrong : ChangeSpec := { name := "topicKeeps", fn := fun _ => fun
  | [d1, d2, d3, d4, d5] => { results := [.lit (.bool false)], args := [d1, d2, d3, d4, d5] }
  | _ => none }
def TopicKeepsWrongFalsely : Prop := topicKeepsRow.holds Try.pinned (OpenSpec.ofChange topicKeepsWrong)

/-- 'towncrierlaw18.KeepNames': WHATEVER THE INPUT: true; the input reads as it did. -/
def keepNamesSpec : ChangeSpec := { name := "keepNames", fn := fun _ => fun
  | [] => { results := [.lit (.bool true)], args := [] }
  | _ => none }
def keepNamesRow : OpenClaim := { program := "ytolgkadoplalnaa", sum := "7dd1783d75239650380a16019c4eb650e35dc84a8d8f63fcb26134b0b3593666", func := "towncrier/towncrierlaw18.KeepNames", spec := "keepNames", unfollowed := true, recurses := true, apart := false }
def KeepNamesSaid : Prop := keepNamesRow.holds Try.pinned (OpenSpec.ofChange keepNamesSpec)

/-- ITS FALSE NEIGHBOUR: 'it returns false'. Refute it at one input. -/
def keepNamesWrong : ChangeSpec := { name := "keepNames", fn := fun _ => fun
  | [] => { results := [.lit (.bool false)], args := [] }
  | _ => none }
def KeepNamesWrongFalsely : Prop := keepNamesRow.holds Try.pinned (OpenSpec.ofChange keepNamesWrong)

/-- 'towncrierlaw18.KeepRoom': WHATEVER THE INPUT: true; the input reads as it did. -/
def keepRoomSpec : ChangeSpec := { name := "keepRoom", fn := fun _ => fun
  | [d] => { results := [.lit (.bool true)], args := [d] }
  | _ => none }
def keepRoomRow : OpenClaim := { program := "ytolgkadoplalnaa", sum := "7dd1783d75239650380a16019c4eb650e35dc84a8d8f63fcb26134b0b3593666", func := "towncrier/towncrierlaw18.KeepRoom", spec := "keepRoom", unfollowed := true, recurses := true, apart := false }
def KeepRoomSaid : Prop := keepRoomRow.holds Try.pinned (OpenSpec.ofChange keepRoomSpec)

/-- ITS FALSE NEIGHBOUR: 'it returns false'. Refute it at one input. -/
def keepRoomWrong : ChangeSpec := { name := "keepRoom", fn := fun _ => fun
  | [d] => { results := [.lit (.bool false)], args := [d] }
  | _ => none }
def KeepRoomWrongFalsely : Prop := keepRoomRow.holds Try.pinned (OpenSpec.ofChange keepRoomWrong)

/-- 'towncrierlaw18.KeepOnly': WHATEVER THE INPUT: true; the input reads as it did. -/
def keepOnlySpec : ChangeSpec := { name := "keepOnly", fn := fun _ => fun
  | [d1, d2, d3] => { results := [.lit (.bool true)], args := [d1, d2, d3] }
  | _ => none }
def keepOnlyRow : OpenClaim := { program := "ytolgkadoplalnaa", sum := "7dd1783d75239650380a16019c4eb650e35dc84a8d8f63fcb26134b0b3593666", func := "towncrier/towncrierlaw18.KeepOnly", spec := "keepOnly", unfollowed := true, recurses := true, apart := false }
def KeepOnlySaid : Prop := keepOnlyRow.holds Try.pinned (OpenSpec.ofChange keepOnlySpec)

/-- ITS FALSE NEIGHBOUR: 'it returns false'. Refute it at one input. -/
def keepOnlyWrong : ChangeSpec := { name := "keepOnly", fn := fun _ => fun
  | [d1, d2, d3] => { results := [.lit (.bool false)], args := [d1, d2, d3] }
  | _ => none }
def KeepOnlyWrongFalsely : Prop := keepOnlyRow.holds Try.pinned (OpenSpec.ofChange keepOnlyWrong)

/-- 'towncrierlaw18.KeepTwice': WHATEVER THE INPUT: true; the input reads as it did. -/
def keepTwiceSpec : ChangeSpec := { name := "keepTwice", fn := fun _ => fun
  | [d1, d2, d3] => { results := [.lit (.bool true)], args := [d1, d2, d3] }
  | _ => none }
def keepTwiceRow : OpenClaim := { program := "ytolgkadoplalnaa", sum := "7dd1783d75239650380a16019c4eb650e35dc84a8d8f63fcb26134b0b3593666", func := "towncrier/towncrierlaw18.KeepTwice", spec := "keepTwice", unfollowed := true, recurses := true, apart := false }
def KeepTwiceSaid : Prop := keepTwiceRow.holds Try.pinned (OpenSpec.ofChange keepTwiceSpec)

/-- ITS FALSE NEIGHBOUR: 'it returns false'. Refute it at one input. -/
def keepTwiceWrong : ChangeSpec := { name := "keepTwice", fn := fun _ => fun
  | [d1, d2, d3] => { results := [.lit (.bool false)], args := [d1, d2, d3] }
  | _ => none }
def KeepTwiceWrongFalsely : Prop := keepTwiceRow.holds Try.pinned (OpenSpec.ofChange keepTwiceWrong)

/-- 'towncrierlaw19.CompactLast': WHATEVER THE INPUT: true; the input reads as it did. -/
def compactLastSpec : ChangeSpec := { name := "compactLast", fn := fun _ => fun
  | [d1, d2, d3, d4, d5] => { results := [.lit (.bool true)], args := [d1, d2, d3, d4, d5] }
  | _ => none }
def compactLastRow : OpenClaim := { program := "ytolgkadoplalnaa", sum := "7dd1783d75239650380a16019c4eb650e35dc84a8d8f63fcb26134b0b3593666", func := "towncrier/towncrierlaw19.CompactLast", spec := "compactLast", unfollowed := true, recurses := true, apart := false }
def CompactLastSaid : Prop := compactLastRow.holds Try.pinned (OpenSpec.ofChange compactLastSpec)

/-- ITS FALSE NEIGHBOUR: 'it returns false'. Refute it at one input. -/
def compactLastWrong : ChangeSpec := { name := "compactLast", fn := fun _ => fun
  | [d1, d2, d3, d4, d5] => { results := [.lit (.bool false)], args := [d1, d2, d3, d4, d5] }
  | _ => none }
def CompactLastWrongFalsely : Prop := compactLastRow.holds Try.pinned (OpenSpec.ofChange compactLastWrong)

/- THE SECOND FORM. 'bulk': how many values and letters a reading holds, each counted each time it is reached (what is shared counts as often as it is met; a slice's spare places count too). A statement '..UptoSaid' is the law's where the arguments, and the package variables that the reading takes, are together of bulk at most 1048576: NARROWER than '..Said'. Prove '..Said' where nothing that the law and all that it calls make is longer than what came in: it says more and counts as full. Else prove '..UptoSaid'. A law counts once. -/
mutual
def uptoBulk {H : Type} : DataW H → Nat
  | .lit (.string bytes) => bytes.length + 1
  | .lit _ => 1
  | .nil => 1
  | .ptr d => uptoBulk d + 1
  | .slice elems spare => uptoBulkAll elems + uptoBulkAll spare + 1
  | .agg parts => uptoBulkAll parts + 1
  | .iface _ d => uptoBulk d + 1
  | .map entries => uptoBulkEntries entries + 1
  | .held _ => 1
def uptoBulkAll {H : Type} : List (DataW H) → Nat
  | [] => 0
  | d :: r => uptoBulk d + uptoBulkAll r
def uptoBulkEntries {H : Type} : List (Lit × DataW H) → Nat
  | [] => 0
  | x :: r => uptoBulkEntry x + uptoBulkEntries r
def uptoBulkEntry {H : Type} : Lit × DataW H → Nat
  | (.string bytes, d) => bytes.length + uptoBulk d + 1
  | (_, d) => uptoBulk d + 1
 end
def uptoSmall : (H : Type) → List (DataW H) → Bool := fun _ ds => decide (uptoBulkAll ds ≤ 1048576)
def OpenSpec.upto (s : _root_.Go.ChangeSpec) : _root_.Go.OpenSpec := { _root_.Go.OpenSpec.ofChange s with cond := some uptoSmall }

/-- 'towncrierlaw18.KeepTrims', WHERE WHAT IT READS IS OF BULK AT MOST 1048576: true; the input reads as it did. -/
def keepTrimsUptoRow : OpenClaim := { program := "ytolgkadoplalnaa", sum := "7dd1783d75239650380a16019c4eb650e35dc84a8d8f63fcb26134b0b3593666", func := "towncrier/towncrierlaw18.KeepTrims", spec := "keepTrims", unfollowed := true, recurses := true, apart := false, narrowed := true }
def KeepTrimsUptoSaid : Prop := keepTrimsUptoRow.holds Try.pinned (OpenSpec.upto keepTrimsSpec)

/-- 'towncrierlaw19.CompactDoes', WHERE WHAT IT READS IS OF BULK AT MOST 1048576: true; the input reads as it did. -/
def compactDoesUptoRow : OpenClaim := { program := "ytolgkadoplalnaa", sum := "7dd1783d75239650380a16019c4eb650e35dc84a8d8f63fcb26134b0b3593666", func := "towncrier/towncrierlaw19.CompactDoes", spec := "compactDoes", unfollowed := true, recurses := true, apart := false, narrowed := true }
def CompactDoesUptoSaid : Prop := compactDoesUptoRow.holds Try.pinned (OpenSpec.upto compactDoesSpec)

/-- 'towncrierlaw19.CompactNames', WHERE WHAT IT READS IS OF BULK AT MOST 1048576: true; the input reads as it did. -/
def compactNamesUptoRow : OpenClaim := { program := "ytolgkadoplalnaa", sum := "7dd1783d75239650380a16019c4eb650e35dc84a8d8f63fcb26134b0b3593666", func := "towncrier/towncrierlaw19.CompactNames", spec := "compactNames", unfollowed := true, recurses := true, apart := false, narrowed := true }
def CompactNamesUptoSaid : Prop := compactNamesUptoRow.holds Try.pinned (OpenSpec.upto compactNamesSpec)

/-- 'towncrierlaw19.CompactTwice', WHERE WHAT IT READS IS OF BULK AT MOST 1048576: true; the input reads as it did. -/
def compactTwiceUptoRow : OpenClaim := { program := "ytolgkadoplalnaa", sum := "7dd1783d75239650380a16019c4eb650e35dc84a8d8f63fcb26134b0b3593666", func := "towncrier/towncrierlaw19.CompactTwice", spec := "compactTwice", unfollowed := true, recurses := true, apart := false, narrowed := true }
def CompactTwiceUptoSaid : Prop := compactTwiceUptoRow.holds Try.pinned (OpenSpec.upto compactTwiceSpec)

/-- 'towncrierlaw17.TopicNames', WHERE WHAT IT READS IS OF BULK AT MOST 1048576: true; the input reads as it did. -/
def topicNamesUptoRow : OpenClaim := { program := "ytolgkadoplalnaa", sum := "7dd1783d75239650380a16019c4eb650e35dc84a8d8f63fcb26134b0b3593666", func := "towncrier/towncrierlaw17.TopicNames", spec := "topicNames", unfollowed := true, recurses := true, apart := false, narrowed := true }
def TopicNamesUptoSaid : Prop := topicNamesUptoRow.holds Try.pinned (OpenSpec.upto topicNamesSpec)

/-- 'towncrierlaw17.TopicFew', WHERE WHAT IT READS IS OF BULK AT MOST 1048576: true; the input reads as it did. -/
def topicFewUptoRow : OpenClaim := { program := "ytolgkadoplalnaa", sum := "7dd1783d75239650380a16019c4eb650e35dc84a8d8f63fcb26134b0b3593666", func := "towncrier/towncrierlaw17.TopicFew", spec := "topicFew", unfollowed := true, recurses := true, apart := false, narrowed := true }
def TopicFewUptoSaid : Prop := topicFewUptoRow.holds Try.pinned (OpenSpec.upto topicFewSpec)

/-- 'towncrierlaw17.TopicGoes', WHERE WHAT IT READS IS OF BULK AT MOST 1048576: true; the input reads as it did. -/
def topicGoesUptoRow : OpenClaim := { program := "ytolgkadoplalnaa", sum := "7dd1783d75239650380a16019c4eb650e35dc84a8d8f63fcb26134b0b3593666", func := "towncrier/towncrierlaw17.TopicGoes", spec := "topicGoes", unfollowed := true, recurses := true, apart := false, narrowed := true }
def TopicGoesUptoSaid : Prop := topicGoesUptoRow.holds Try.pinned (OpenSpec.upto topicGoesSpec)

/-- 'towncrierlaw17.TopicKeeps', WHERE WHAT IT READS IS OF BULK AT MOST 1048576: true; the input reads as it did. -/
def topicKeepsUptoRow : OpenClaim := { program := "ytolgkadoplalnaa", sum := "7dd1783d75239650380a16019c4eb650e35dc84a8d8f63fcb26134b0b3593666", func := "towncrier/towncrierlaw17.TopicKeeps", spec := "topicKeeps", unfollowed := true, recurses := true, apart := false, narrowed := true }
def TopicKeepsUptoSaid : Prop := topicKeepsUptoRow.holds Try.pinned (OpenSpec.upto topicKeepsSpec)

/-- 'towncrierlaw18.KeepNames', WHERE WHAT IT READS IS OF BULK AT MOST 1048576: true; the input reads as it did. -/
def keepNamesUptoRow : OpenClaim := { program := "ytolgkadoplalnaa", sum := "7dd1783d75239650380a16019c4eb650e35dc84a8d8f63fcb26134b0b3593666", func := "towncrier/towncrierlaw18.KeepNames", spec := "keepNames", unfollowed := true, recurses := true, apart := false, narrowed := true }
def KeepNamesUptoSaid : Prop := keepNamesUptoRow.holds Try.pinned (OpenSpec.upto keepNamesSpec)

/-- 'towncrierlaw18.KeepRoom', WHERE WHAT IT READS IS OF BULK AT MOST 1048576: true; the input reads as it did. -/
def keepRoomUptoRow : OpenClaim := { program := "ytolgkadoplalnaa", sum := "7dd1783d75239650380a16019c4eb650e35dc84a8d8f63fcb26134b0b3593666", func := "towncrier/towncrierlaw18.KeepRoom", spec := "keepRoom", unfollowed := true, recurses := true, apart := false, narrowed := true }
def KeepRoomUptoSaid : Prop := keepRoomUptoRow.holds Try.pinned (OpenSpec.upto keepRoomSpec)

/-- 'towncrierlaw18.KeepOnly', WHERE WHAT IT READS IS OF BULK AT MOST 1048576: true; the input reads as it did. -/
def keepOnlyUptoRow : OpenClaim := { program := "ytolgkadoplalnaa", sum := "7dd1783d75239650380a16019c4eb650e35dc84a8d8f63fcb26134b0b3593666", func := "towncrier/towncrierlaw18.KeepOnly", spec := "keepOnly", unfollowed := true, recurses := true, apart := false, narrowed := true }
def KeepOnlyUptoSaid : Prop := keepOnlyUptoRow.holds Try.pinned (OpenSpec.upto keepOnlySpec)

/-- 'towncrierlaw18.KeepTwice', WHERE WHAT IT READS IS OF BULK AT MOST 1048576: true; the input reads as it did. -/
def keepTwiceUptoRow : OpenClaim := { program := "ytolgkadoplalnaa", sum := "7dd1783d75239650380a16019c4eb650e35dc84a8d8f63fcb26134b0b3593666", func := "towncrier/towncrierlaw18.KeepTwice", spec := "keepTwice", unfollowed := true, recurses := true, apart := false, narrowed := true }
def KeepTwiceUptoSaid : Prop := keepTwiceUptoRow.holds Try.pinned (OpenSpec.upto keepTwiceSpec)

/-- 'towncrierlaw19.CompactLast', WHERE WHAT IT READS IS OF BULK AT MOST 1048576: true; the input reads as it did. -/
def compactLastUptoRow : OpenClaim := { program := "ytolgkadoplalnaa", sum := "7dd1783d75239650380a16019c4eb650e35dc84a8d8f63fcb26134b0b3593666", func := "towncrier/towncrierlaw19.CompactLast", spec := "compactLast", unfollowed := true, recurses := true, apart := false, narrowed := true }
def CompactLastUptoSaid : Prop := compactLastUptoRow.holds Try.pinned (OpenSpec.upto compactLastSpec)

end Rows
end Go.Proofs.Ytolgkadoplalnaa
