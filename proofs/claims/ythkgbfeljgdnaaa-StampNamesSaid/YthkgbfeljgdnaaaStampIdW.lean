/-
  stamp.Id, stamp.Of and the document's: what each returns, for every number. No condition but that a number fits its kind.
-/
import Derived.Test.YthkgbfeljgdnaaaProg
import Derived.WalkKit
namespace Go.Proofs.Ythkgbfeljgdnaaa
open Go.RowKit

def okId (s n : Int) : Bool := decide (0 ≤ s ∧ s < 6 ∧ 0 ≤ n ∧ n < 1048576)
def okOf (i : Int) : Bool := decide (0 ≤ i ∧ i < 6291456)

theorem stamp_id_yes (s n : Int) (w : World) (h : 0 ≤ s ∧ s < 6 ∧ 0 ≤ n ∧ n < 1048576) :
    Calls Try.prog 13 #[.int .i64 s, .int .i64 n] w fun e w' => e = .returned (.tuple #[.int .i64 (s * 1048576 + n), .int .i64 0]) ∧ w = w' := by
  obtain ⟨h1, h2, h3, h4⟩ := h
  go_enter Try.func13, Try.ntmps13
  go_wp2
  go_ret2
  exact ⟨rfl, rfl⟩

theorem ref_id_yes (s n : Int) (w : World) (h : 0 ≤ s ∧ s < 6 ∧ 0 ≤ n ∧ n < 1048576) :
    Calls Try.prog 14 #[.int .i64 s, .int .i64 n] w fun e w' => e = .returned (.tuple #[.int .i64 (s * 1048576 + n), .int .i64 0]) ∧ w = w' := by
  obtain ⟨h1, h2, h3, h4⟩ := h
  go_enter Try.func14, Try.ntmps14
  go_wp2
  go_ret2
  exact ⟨rfl, rfl⟩

theorem stamp_id_no (s n : Int) (w : World) (h : ¬ (0 ≤ s ∧ s < 6 ∧ 0 ≤ n ∧ n < 1048576)) :
    Calls Try.prog 13 #[.int .i64 s, .int .i64 n] w fun e w' => e = .returned (.tuple #[.int .i64 0, .int .i64 2]) ∧ w = w' := by
  by_cases h1 : s < 0
  · go_enter Try.func13, Try.ntmps13
    go_wp2
    go_ret2
    exact ⟨rfl, rfl⟩
  · by_cases h2 : 6 ≤ s
    · go_enter Try.func13, Try.ntmps13
      go_wp2
      go_ret2
      exact ⟨rfl, rfl⟩
    · by_cases h3 : n < 0
      · go_enter Try.func13, Try.ntmps13
        go_wp2
        go_ret2
        exact ⟨rfl, rfl⟩
      · have h4 : 1048576 ≤ n := by omega
        clear h
        go_enter Try.func13, Try.ntmps13
        go_wp2
        go_ret2
        exact ⟨rfl, rfl⟩

theorem ref_id_no (s n : Int) (w : World) (h : ¬ (0 ≤ s ∧ s < 6 ∧ 0 ≤ n ∧ n < 1048576)) :
    Calls Try.prog 14 #[.int .i64 s, .int .i64 n] w fun e w' => e = .returned (.tuple #[.int .i64 0, .int .i64 2]) ∧ w = w' := by
  by_cases h1 : s < 0
  · go_enter Try.func14, Try.ntmps14
    go_wp2
    go_ret2
    exact ⟨rfl, rfl⟩
  · by_cases h2 : 6 ≤ s
    · go_enter Try.func14, Try.ntmps14
      go_wp2
      go_ret2
      exact ⟨rfl, rfl⟩
    · by_cases h3 : n < 0
      · go_enter Try.func14, Try.ntmps14
        go_wp2
        go_ret2
        exact ⟨rfl, rfl⟩
      · have h4 : 1048576 ≤ n := by omega
        clear h
        go_enter Try.func14, Try.ntmps14
        go_wp2
        go_ret2
        exact ⟨rfl, rfl⟩

end Go.Proofs.Ythkgbfeljgdnaaa
