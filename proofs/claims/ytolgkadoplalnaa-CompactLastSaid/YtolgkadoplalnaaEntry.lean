/-
  topic.entry: whether an entry may be. No condition.
-/
import Derived.Test.YtolgkadoplalnaaProg
import Derived.Test.YtolgkadoplalnaaTopR
namespace Go.Proofs.Ytolgkadoplalnaa
open Go.RowKit

theorem entry_yes (o i : Int) (k b : ByteArray) (w : World) (h1 : 0 ≤ i) (h2 : i < 6291456) (h3 : k.size ≤ 16) (h4 : b.size ≤ 64) :
    Calls Try.prog 55 #[.agg #[.int .i64 o, .int .i64 i, .string k, .string b]] w fun e w' => e = .returned (.bool true) ∧ Below w.heap.size w w' := by
  have d3 : (k.size : Int) ≤ 16 := by omega
  have d4 : (b.size : Int) ≤ 64 := by omega
  go_enter Try.func55, Try.ntmps55
  go_wp2_with fail
  go_ret
  exact ⟨rfl, (Below.refl _ _).alloc (Nat.le_refl _) _⟩
theorem entry_no (o i : Int) (k b : ByteArray) (w : World) (h : ¬ (0 ≤ i ∧ i < 6291456 ∧ k.size ≤ 16 ∧ b.size ≤ 64)) :
    Calls Try.prog 55 #[.agg #[.int .i64 o, .int .i64 i, .string k, .string b]] w fun e w' => e = .returned (.bool false) ∧ Below w.heap.size w w' := by
  by_cases h1 : i < 0
  · clear h
    go_enter Try.func55, Try.ntmps55
    go_wp2_with fail
    go_ret
    exact ⟨rfl, (Below.refl _ _).alloc (Nat.le_refl _) _⟩
  · have h1' : 0 ≤ i := by omega
    by_cases h2 : 6291456 ≤ i
    · clear h
      go_enter Try.func55, Try.ntmps55
      go_wp2_with fail
      go_ret
      exact ⟨rfl, (Below.refl _ _).alloc (Nat.le_refl _) _⟩
    · have h2' : i < 6291456 := by omega
      by_cases h3 : k.size ≤ 16
      · have h4 : ¬ b.size ≤ 64 := fun h4 => h ⟨h1', h2', h3, h4⟩
        have d3 : (k.size : Int) ≤ 16 := by omega
        have d4 : (64 : Int) < (b.size : Int) := by omega
        have d5 : decide ((b.size : Int) ≤ 64) = false := by simp; omega
        clear h h3 h4
        go_enter Try.func55, Try.ntmps55
        go_wp2_with fail
        go_ret
        exact ⟨rfl, (Below.refl _ _).alloc (Nat.le_refl _) _⟩
      · have d3 : (16 : Int) < (k.size : Int) := by omega
        clear h h3
        go_enter Try.func55, Try.ntmps55
        go_wp2_with fail
        go_ret
        exact ⟨rfl, (Below.refl _ _).alloc (Nat.le_refl _) _⟩

theorem entry_any (x : Ent) (w : World) :
    Calls Try.prog 55 #[.agg #[.int .i64 x.off, .int .i64 x.id, .string x.key, .string x.body]] w fun e w' => e = .returned (.bool (decide (Top.okEnt x))) ∧ Below w.heap.size w w' := by
  by_cases h : Top.okEnt x
  · rw [decide_eq_true h]
    exact entry_yes _ _ _ _ w h.1 h.2.1 h.2.2.1 h.2.2.2
  · rw [decide_eq_false h]
    exact entry_no _ _ _ _ w h
end Go.Proofs.Ytolgkadoplalnaa
