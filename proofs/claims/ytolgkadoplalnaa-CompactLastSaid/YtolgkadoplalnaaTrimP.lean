/-
  Plain: what is let go, how much room there is; topics that a call returns. No program in sight.
-/
import Derived.Test.YtolgkadoplalnaaTopD
import Derived.Test.YtolgkadoplalnaaSteps
import Derived.Test.YtolgkadoplalnaaKeepP
namespace Go.Proofs.Ytolgkadoplalnaa
open Go.RowKit Go.WideShapes Go.ChangeShapes

def trimTo (t : Top) (to : Int) : Int := max t.base (min to t.next)
def trimP (t : Top) (to : Int) : Top × Int :=
  if t.may then (if to < 0 ∨ 1073741824 < to then (Top.zero, 2) else (⟨trimTo t to, t.next, t.mark, fromE (trimTo t to) t.ents⟩, 0)) else (Top.zero, 8)
theorem trimP_bad {t : Top} {to : Int} (h : ¬ t.may) : trimP t to = (Top.zero, 8) := by simp [trimP, h]
theorem trimP_arg {t : Top} {to : Int} (h : t.may) (h' : to < 0 ∨ 1073741824 < to) : trimP t to = (Top.zero, 2) := by simp [trimP, h, h']
theorem trimP_yes {t : Top} {to : Int} (h : t.may) (h' : ¬ (to < 0 ∨ 1073741824 < to)) : trimP t to = (⟨trimTo t to, t.next, t.mark, fromE (trimTo t to) t.ents⟩, 0) := by simp [trimP, h, h']
theorem trimP_len {t u : Top} {to x : Int} (h : trimP t to = (u, x)) : u.ents.length ≤ 200 := by
  by_cases hm : t.may
  · by_cases ht : to < 0 ∨ 1073741824 < to
    · rw [trimP_arg hm ht] at h
      cases h
      exact Nat.zero_le _
    · rw [trimP_yes hm ht] at h
      cases h
      exact Nat.le_trans (fromE_len _ _) hm.1.2.2.2.2.2.2
  · rw [trimP_bad hm] at h
    cases h
    exact Nat.zero_le _
def roomP (t : Top) : Int × Int := if t.may then (min (200 - (t.ents.length : Int)) (1073741824 - t.next), 0) else (0, 8)

/-- A topic, new memory, and a number. -/
def TopEnd1 (u : Top) (x : Int) (w : World) (e : Ending) (w' : World) : Prop :=
  ∃ a cap, e = .returned (.tuple #[.agg #[.int .i64 u.base, .int .i64 u.next, .int .i64 u.mark, .slice a u.ents.length cap], .int .i64 x]) ∧
    OwnE w' w.heap.size (.slice a u.ents.length cap) u.ents ∧ Below w.heap.size w w'
theorem topEnd1_zero {w w' : World} {e : Ending} (x : Int) (h : e = .returned (.tuple #[.agg #[.int .i64 0, .int .i64 0, .int .i64 0, .slice none 0 0], .int .i64 x])) (hb : Below w.heap.size w w') : TopEnd1 Top.zero x w e w' :=
  ⟨none, 0, h, World.ownsRow_nil _ _ _ _, hb⟩
theorem own_top {w : World} {B : Nat} {a : Option Addr} {cap : Nat} {u : Top} (h : OwnE w B (.slice a u.ents.length cap) u.ents) :
    TopR w (.agg #[.int .i64 u.base, .int .i64 u.next, .int .i64 u.mark, .slice a u.ents.length cap]) u := ⟨a, cap, rfl, h.reads⟩
theorem top_keys {t : Top} (h : topOk t) : ∀ x ∈ t.ents, x.key.size ≤ maxLen := fun x hx => Nat.le_trans (h.2 x hx).2.1 (by unfold reachBytes maxLen; omega)
theorem top_sizes {t : Top} (h : topOk t) : ∀ x ∈ t.ents, x.key.size ≤ 140737488355328 ∧ x.body.size ≤ 140737488355328 := fun x hx => ⟨Nat.le_trans (h.2 x hx).2.1 (by unfold reachBytes; omega), Nat.le_trans (h.2 x hx).2.2 (by unfold reachBytes; omega)⟩
end Go.Proofs.Ytolgkadoplalnaa
