/-
  stamp.Check and the document's: whether a stamp may be. No condition.
-/
import Derived.Test.YthkgbfeljgdnaaaProg
import Derived.Test.YthkgbfeljgdnaaaRead
import Derived.Test.YthkgbfeljgdnaaaKit
namespace Go.Proofs.Ythkgbfeljgdnaaa
open Go.RowKit

def okSt (x : Int × Int) : Bool := decide (0 ≤ x.1 ∧ x.1 ≤ 1073741824 ∧ 0 ≤ x.2 ∧ x.2 < 6291456)

theorem stcheck_yes (t i : Int) (w : World) (h1 : 0 ≤ t) (h2 : t ≤ 1073741824) (h3 : 0 ≤ i) (h4 : i < 6291456) :
    Calls Try.prog 20 #[.agg #[.int .i64 t, .int .i64 i]] w fun e w' => e = .returned (.int .i64 0) ∧ Below w.heap.size w w' := by
  go_enter Try.func20, Try.ntmps20
  go_wp2
  go_ret
  exact ⟨rfl, (Below.refl _ _).alloc (Nat.le_refl _) _⟩
theorem stcheck_no (t i : Int) (w : World) (h : ¬ (0 ≤ t ∧ t ≤ 1073741824 ∧ 0 ≤ i ∧ i < 6291456)) :
    Calls Try.prog 20 #[.agg #[.int .i64 t, .int .i64 i]] w fun e w' => e = .returned (.int .i64 8) ∧ Below w.heap.size w w' := by
  by_cases h1 : t < 0
  · go_enter Try.func20, Try.ntmps20
    go_wp2
    go_ret
    exact ⟨rfl, (Below.refl _ _).alloc (Nat.le_refl _) _⟩
  · by_cases h2 : 1073741824 < t
    · go_enter Try.func20, Try.ntmps20
      go_wp2
      go_ret
      exact ⟨rfl, (Below.refl _ _).alloc (Nat.le_refl _) _⟩
    · by_cases h3 : i < 0
      · go_enter Try.func20, Try.ntmps20
        go_wp2
        go_ret
        exact ⟨rfl, (Below.refl _ _).alloc (Nat.le_refl _) _⟩
      · have h4 : 6291456 ≤ i := by omega
        clear h
        go_enter Try.func20, Try.ntmps20
        go_wp2
        go_ret
        exact ⟨rfl, (Below.refl _ _).alloc (Nat.le_refl _) _⟩
theorem stcheck_any (x : Int × Int) (w : World) : Calls Try.prog 20 #[.agg #[.int .i64 x.1, .int .i64 x.2]] w fun e w' => e = .returned (.int .i64 (if okSt x then 0 else 8)) ∧ Below w.heap.size w w' := by
  by_cases h : 0 ≤ x.1 ∧ x.1 ≤ 1073741824 ∧ 0 ≤ x.2 ∧ x.2 < 6291456
  · rw [if_pos (by simp [okSt, h])]; exact stcheck_yes _ _ w h.1 h.2.1 h.2.2.1 h.2.2.2
  · rw [if_neg (by simp only [okSt, decide_eq_true_eq]; exact h)]; exact stcheck_no _ _ w h

theorem refmay_yes (t i : Int) (w : World) (h1 : 0 ≤ t) (h2 : t ≤ 1073741824) (h3 : 0 ≤ i) (h4 : i < 6291456) :
    Calls Try.prog 42 #[.agg #[.int .i64 t, .int .i64 i]] w fun e w' => e = .returned (.bool true) ∧ Below w.heap.size w w' := by
  go_enter Try.func42, Try.ntmps42
  go_wp2
  go_ret
  exact ⟨rfl, (Below.refl _ _).alloc (Nat.le_refl _) _⟩
theorem refmay_no (t i : Int) (w : World) (h : ¬ (0 ≤ t ∧ t ≤ 1073741824 ∧ 0 ≤ i ∧ i < 6291456)) :
    Calls Try.prog 42 #[.agg #[.int .i64 t, .int .i64 i]] w fun e w' => e = .returned (.bool false) ∧ Below w.heap.size w w' := by
  by_cases h1 : t < 0
  · go_enter Try.func42, Try.ntmps42
    go_wp2
    go_ret
    exact ⟨rfl, (Below.refl _ _).alloc (Nat.le_refl _) _⟩
  · by_cases h2 : 1073741824 < t
    · go_enter Try.func42, Try.ntmps42
      go_wp2
      go_ret
      exact ⟨rfl, (Below.refl _ _).alloc (Nat.le_refl _) _⟩
    · by_cases h3 : i < 0
      · go_enter Try.func42, Try.ntmps42
        go_wp2
        go_ret
        exact ⟨rfl, (Below.refl _ _).alloc (Nat.le_refl _) _⟩
      · have h5 : decide (i < 6291456) = false := by simp; omega
        clear h
        go_enter Try.func42, Try.ntmps42
        go_wp2
        go_ret
        exact ⟨rfl, (Below.refl _ _).alloc (Nat.le_refl _) _⟩
theorem refmay_any (x : Int × Int) (w : World) : Calls Try.prog 42 #[.agg #[.int .i64 x.1, .int .i64 x.2]] w fun e w' => e = .returned (.bool (okSt x)) ∧ Below w.heap.size w w' := by
  by_cases h : 0 ≤ x.1 ∧ x.1 ≤ 1073741824 ∧ 0 ≤ x.2 ∧ x.2 < 6291456
  · rw [show okSt x = true from by simp [okSt, h]]; exact refmay_yes _ _ w h.1 h.2.1 h.2.2.1 h.2.2.2
  · rw [show okSt x = false from by simp only [okSt, decide_eq_false_iff_not]; exact h]; exact refmay_no _ _ w h

theorem refcheck_any (x : Int × Int) (w : World) : Calls Try.prog 21 #[.agg #[.int .i64 x.1, .int .i64 x.2]] w fun e w' => e = .returned (.int .i64 (if okSt x then 0 else 8)) ∧ Below w.heap.size w w' := by
  have H := Lib.hid (refmay_any x)
  cases h : okSt x <;> rw [h] at H <;> clear h
  all_goals
    go_enter Try.func21, Try.ntmps21
    go_wp2_with fail
    refine (H.out _).mono ?_
    rintro e w1 ⟨rfl, hb⟩
    go_wp2_with fail
    go_ret
    exact ⟨rfl, (((Below.refl _ _).alloc (Nat.le_refl _) _).trans (hb.mono (by simp)))⟩

end Go.Proofs.Ythkgbfeljgdnaaa
