/-
  slices.Clone at entries, topic.Twin. No condition but that the entries read and are not very many.
-/
import Derived.Test.YtolgkadoplalnaaProg
import Derived.Test.YtolgkadoplalnaaTopR
import Derived.OwnWalk
import Derived.Deep.DeepMust
import Derived.Laws.AppendOwnNone
import Derived.WalkLawsBesides
namespace Go.Proofs.Ytolgkadoplalnaa
open Go.RowKit

theorem info_ent : (Try.prog.info? 38).map (fun i => (i.zero, i.size, i.bytes)) = some (some (.agg #[.int .i64 0, .int .i64 0, .string ByteArray.empty, .string ByteArray.empty]), 4, 48) := by kernel_rfl

/-- The slice v is the call's own; it reads as l. -/
abbrev OwnE (w : World) (base : Nat) (v : Value) (l : List Ent) : Prop := w.ownsRow base 38 4 v l.length (l.flatMap entCells)
theorem OwnE.reads {w : World} {base : Nat} {v : Value} {l : List Ent} (h : OwnE w base v l) : SliceR w v 4 entCells l := sliceR_of_owns entCells_len h
theorem flat_len (l : List Ent) : (l.flatMap entCells).length = l.length * 4 := flat_length entCells_len l
theorem flat_one4 (l : List Ent) : ∀ v ∈ l.flatMap entCells, v.oneCell' = true := by
  intro v hv
  obtain ⟨x, _, hx⟩ := List.mem_flatMap.1 hv
  simp only [entCells, List.mem_cons, List.not_mem_nil, or_false] at hx
  rcases hx with rfl | rfl | rfl | rfl <;> rfl

def CloneEnd (l : List Ent) (w : World) (e : Ending) (w' : World) : Prop := ∃ a cap, e = .returned (.slice a l.length cap) ∧ OwnE w' w.heap.size (.slice a l.length cap) l ∧ Below w.heap.size w w'

theorem own_shape {w : World} {base : Nat} {v : Value} {l : List Ent} (h : OwnE w base v l) : ∃ a cap, v = .slice a l.length cap := by
  rcases h.2 with ⟨e, h0⟩ | ⟨g, cp, _, e, _⟩
  · exact ⟨none, 0, by rw [e, h0]⟩
  · exact ⟨_, _, e⟩

theorem clone_nil (w : World) : Calls Try.prog 44 #[.slice none 0 0] w (CloneEnd [] w) := by
  have hE := fun w' => Lib.run_eql_slice_nil w' 22 38 none 0 0 0 0 Try.underlying22
  simp only [Option.isNone_none] at hE
  go_enter Try.func44, Try.ntmps44
  go_wp2_with fail
  go_ret
  exact ⟨none, 0, rfl, World.ownsRow_nil _ _ _ _, Below.refl _ _⟩

set_option maxHeartbeats 1000000 in
theorem clone_some (ad : Addr) (n cap : Nat) (l : List Ent) (w : World) (h : SliceR w (.slice (some ad) n cap) 4 entCells l) (hl : l.length ≤ 1000000) :
    Calls Try.prog 44 #[.slice (some ad) n cap] w (CloneEnd l w) := by
  obtain ⟨i0, hi, hz0, hz1, hz2⟩ := info_parts info_ent
  have H := Lib.hid h
  have HL := Lib.hid hl
  have HN := Lib.hid h.ents.1.1
  have HNP := Lib.hid h.ents.2.2
  clear h hl
  have hE := fun w' => Lib.run_eql_slice_nil w' 22 38 (some ad) n cap 0 0 Try.underlying22
  simp only [Option.isNone_some] at hE
  go_enter Try.func44, Try.ntmps44
  go_wp2_with (at_builtin; go_must (refine wpList_append_own _ rfl _ _ 22 rfl w.heap.size 38 i0 _ 4 48 Try.underlying22 hi hz0 hz1 hz2 rfl (by decide) _ 0 [] rfl (World.ownsRow_made w #[] 0 (Nat.le_refl _) (Nat.zero_le _) rfl) ad n cap (l.flatMap entCells) rfl (by rw [flat_len, HN.out]) ?_ (flat_one4 l) (by have := HL.out; rw [HN.out]; unfold maxLen; omega) (by have := HL.out; rw [HN.out]; omega) (by simp) ?_))
  · intro j v hv
    have hn0 : 0 < n := by
      have := (List.getElem?_eq_some_iff.1 hv).1
      rw [flat_len, ← HN.out] at this
      omega
    obtain ⟨b, off, e, _⟩ := HNP.out hn0
    cases e
    have h2 := (H.out.below entCells_len ((Below.refl _ _).alloc (Nat.le_refl _) (.cells #[] 38))).flat entCells_len (by omega) j v hv
    exact h2
  · intro v' w' hown hgrow _
    have hb := ((Below.refl w.heap.size w).alloc (Nat.le_refl _) (.cells #[] 38)).grown hgrow (by simp) (fun j hj => by cases hj; exact Nat.le_refl _)
    have ho : OwnE w' w.heap.size v' l := by simpa [HN.out] using hown
    obtain ⟨a', cap', hv'⟩ := own_shape ho
    subst hv'
    have HO := Lib.hid ho
    have HB := Lib.hid hb
    clear hown hgrow hb ho
    go_wp2_with fail
    go_ret
    exact ⟨a', cap', rfl, HO.out, HB.out⟩

theorem clone_any {v : Value} {l : List Ent} {w : World} (h : SliceR w v 4 entCells l) (hl : l.length ≤ 1000000) :
    Calls Try.prog 44 #[v] w (CloneEnd l w) := by
  have h' := h
  obtain ⟨a, cap, hv, hcap, _, hnone, hc⟩ := h'
  subst hv
  cases a with
  | none =>
    have h0 : l.length = 0 := by have := hnone rfl; omega
    have hl0 : l = [] := List.length_eq_zero_iff.1 h0
    subst hl0
    have hc0 : cap = 0 := hnone rfl
    subst hc0
    exact clone_nil w
  | some ad => exact clone_some ad _ cap l w h hl

/-- A topic that the call made: its entries lie in its own block. -/
def TwinEnd17 (t : Top) (w : World) (e : Ending) (w' : World) : Prop :=
  ∃ a cap, e = .returned (.agg #[.int .i64 t.base, .int .i64 t.next, .int .i64 t.mark, .slice a t.ents.length cap]) ∧ OwnE w' w.heap.size (.slice a t.ents.length cap) t.ents ∧ Below w.heap.size w w'

end Go.Proofs.Ytolgkadoplalnaa
