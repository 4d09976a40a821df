/-
  cmp.Compare and cmp.isNaN at int; cmp.Or at int over two numbers. No condition.
-/
import Derived.Test.YthkgbfeljgdnaaaProg
import Derived.WalkKit
namespace Go.Proofs.Ythkgbfeljgdnaaa
open Go.RowKit

theorem isNaN_any (a : Int) (w : World) : Calls Try.prog 53 #[.int .i64 a] w fun e w' => e = .returned (.bool false) ∧ w = w' := by
  have h : (a != a) = false := by simp
  go_enter Try.func53, Try.ntmps53
  go_wp2
  go_ret
  simp

theorem compare_lt (a b : Int) (h : a < b) (w : World) : Calls Try.prog 41 #[.int .i64 a, .int .i64 b] w fun e w' => e = .returned (.int .i64 (-1)) ∧ w = w' := by
  go_enter Try.func41, Try.ntmps41
  go_wp2_with (go_at_call 53; refine (isNaN_any _ _).mono ?_; rintro e w' ⟨rfl, rfl⟩)
  go_ret
  exact ⟨rfl, rfl⟩
theorem compare_gt (a b : Int) (h : b < a) (w : World) : Calls Try.prog 41 #[.int .i64 a, .int .i64 b] w fun e w' => e = .returned (.int .i64 1) ∧ w = w' := by
  have h' : ¬ a < b := by omega
  go_enter Try.func41, Try.ntmps41
  go_wp2_with (go_at_call 53; refine (isNaN_any _ _).mono ?_; rintro e w' ⟨rfl, rfl⟩)
  go_ret
  exact ⟨rfl, rfl⟩
theorem compare_eq (a : Int) (w : World) : Calls Try.prog 41 #[.int .i64 a, .int .i64 a] w fun e w' => e = .returned (.int .i64 0) ∧ w = w' := by
  have h' : ¬ a < a := by omega
  go_enter Try.func41, Try.ntmps41
  go_wp2_with (go_at_call 53; refine (isNaN_any _ _).mono ?_; rintro e w' ⟨rfl, rfl⟩)
  go_ret
  exact ⟨rfl, rfl⟩

def cmpI (a b : Int) : Int := if a < b then -1 else if b < a then 1 else 0
theorem compare_any (a b : Int) (w : World) : Calls Try.prog 41 #[.int .i64 a, .int .i64 b] w fun e w' => e = .returned (.int .i64 (cmpI a b)) ∧ w = w' := by
  unfold cmpI
  by_cases h : a < b
  · rw [if_pos h]; exact compare_lt a b h w
  · rw [if_neg h]
    by_cases h2 : b < a
    · rw [if_pos h2]; exact compare_gt a b h2 w
    · rw [if_neg h2]
      obtain rfl : a = b := by omega
      exact compare_eq a w

end Go.Proofs.Ythkgbfeljgdnaaa
