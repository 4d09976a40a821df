/-
  Plain: what is left when a topic is compacted. No program in sight.
-/
import Derived.Test.YtolgkadoplalnaaLatP
import Derived.Test.YtolgkadoplalnaaTrimP
namespace Go.Proofs.Ytolgkadoplalnaa
open Go.RowKit

def hasC (l : List ByteArray) (k : ByteArray) : Bool := l.any fun y => decide (y = k)
theorem hasC_iff {l : List ByteArray} {k : ByteArray} : hasC l k = true ↔ k ∈ l := by simp [hasC]
/-- One entry from behind: the keys that are still wanted, what is left. -/
def stepC (m : Int) (s : List ByteArray × List Ent) (x : Ent) : List ByteArray × List Ent :=
  if x.off < m then (if hasC s.1 x.key = true then (s.1.filter fun k => decide (k ≠ x.key), s.2 ++ [x]) else s) else (s.1, s.2 ++ [x])
def keysC (m : Int) (l : List Ent) : List ByteArray := l.foldl (fun s x => if x.off < m then x.key :: s else s) []
def runC (m : Int) (l pre : List Ent) : List ByteArray × List Ent := pre.foldl (stepC m) (keysC m l, [])
def leftC (m : Int) (l : List Ent) : List Ent := (runC m l l.reverse).2.reverse
def markC (t : Top) (to : Int) : Int := max t.mark (min to t.next)
def compactP (t : Top) (to : Int) : Top × Int :=
  if t.may then (if to < 0 ∨ 1073741824 < to then (Top.zero, 2) else (⟨t.base, t.next, markC t to, leftC (markC t to) t.ents⟩, 0)) else (Top.zero, 8)
theorem compactP_bad {t : Top} {to : Int} (h : ¬ t.may) : compactP t to = (Top.zero, 8) := by simp [compactP, h]
theorem compactP_arg {t : Top} {to : Int} (h : t.may) (h' : to < 0 ∨ 1073741824 < to) : compactP t to = (Top.zero, 2) := by simp [compactP, h, h']
theorem compactP_yes {t : Top} {to : Int} (h : t.may) (h' : ¬ (to < 0 ∨ 1073741824 < to)) : compactP t to = (⟨t.base, t.next, markC t to, leftC (markC t to) t.ents⟩, 0) := by simp [compactP, h, h']

theorem keysC_snoc (m : Int) (l : List Ent) (x : Ent) : keysC m (l ++ [x]) = if x.off < m then x.key :: keysC m l else keysC m l := by simp [keysC]
theorem runC_snoc (m : Int) (l pre : List Ent) (x : Ent) : runC m l (pre ++ [x]) = stepC m (runC m l pre) x := by simp [runC]
theorem stepC_out {m : Int} {s : List ByteArray × List Ent} {x : Ent} (h : ¬ x.off < m) : stepC m s x = (s.1, s.2 ++ [x]) := by simp [stepC, h]
theorem stepC_no {m : Int} {s : List ByteArray × List Ent} {x : Ent} (h : x.off < m) (hk : x.key ∉ s.1) : stepC m s x = s := by
  have : ¬ hasC s.1 x.key = true := fun e => hk (hasC_iff.1 e)
  rw [stepC, if_pos h, if_neg this]
theorem stepC_yes {m : Int} {s : List ByteArray × List Ent} {x : Ent} (h : x.off < m) (hk : x.key ∈ s.1) : stepC m s x = (s.1.filter fun k => decide (k ≠ x.key), s.2 ++ [x]) := by rw [stepC, if_pos h, if_pos (hasC_iff.2 hk)]
theorem runC_len (m : Int) (l pre : List Ent) : (runC m l pre).2.length ≤ pre.length := by
  have : ∀ (pre : List Ent) (s : List ByteArray × List Ent), (pre.foldl (stepC m) s).2.length ≤ s.2.length + pre.length := by
    intro pre
    induction pre with
    | nil => intro s; simp
    | cons x pre ih =>
      intro s
      refine Nat.le_trans (ih _) ?_
      have : (stepC m s x).2.length ≤ s.2.length + 1 := by
        unfold stepC
        repeat' split
        all_goals simp
      simp only [List.length_cons]; omega
  simpa [runC] using this pre (keysC m l, [])
theorem leftC_len (m : Int) (l : List Ent) : (leftC m l).length ≤ l.length := by
  have := runC_len m l l.reverse
  simpa [leftC] using this
theorem compactP_len {t u : Top} {to x : Int} (h : compactP t to = (u, x)) : u.ents.length ≤ 200 := by
  by_cases hm : t.may
  · by_cases ht : to < 0 ∨ 1073741824 < to
    · rw [compactP_arg hm ht] at h
      cases h
      exact Nat.zero_le _
    · rw [compactP_yes hm ht] at h
      cases h
      exact Nat.le_trans (leftC_len _ _) hm.1.2.2.2.2.2.2
  · rw [compactP_bad hm] at h
    cases h
    exact Nat.zero_le _
end Go.Proofs.Ytolgkadoplalnaa
