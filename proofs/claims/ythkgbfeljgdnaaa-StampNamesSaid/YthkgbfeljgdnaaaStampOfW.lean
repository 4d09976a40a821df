/-
  stamp.Of and the document's: what each returns, for every number. No condition.
-/
import Derived.Test.YthkgbfeljgdnaaaProg
import Derived.WalkKit
namespace Go.Proofs.Ythkgbfeljgdnaaa
open Go.RowKit

theorem stamp_of_yes (i : Int) (w : World) (h1 : 0 ≤ i) (h2 : i < 6291456) :
    Calls Try.prog 15 #[.int .i64 i] w fun e w' => e = .returned (.tuple #[.int .i64 (i / 1048576), .int .i64 (i % 1048576), .int .i64 0]) ∧ w = w' := by
  go_enter Try.func15, Try.ntmps15
  go_wp2
  go_ret3
  exact ⟨rfl, rfl⟩

theorem stamp_of_no (i : Int) (w : World) (h : i < 0 ∨ 6291456 ≤ i) :
    Calls Try.prog 15 #[.int .i64 i] w fun e w' => e = .returned (.tuple #[.int .i64 0, .int .i64 0, .int .i64 2]) ∧ w = w' := by
  rcases h with h | h
  · go_enter Try.func15, Try.ntmps15
    go_wp2
    go_ret3
    exact ⟨rfl, rfl⟩
  · have h' : ¬ i < 0 := by omega
    go_enter Try.func15, Try.ntmps15
    go_wp2
    go_ret3
    exact ⟨rfl, rfl⟩

theorem ref_of_yes (i : Int) (w : World) (h1 : 0 ≤ i) (h2 : i < 6291456) :
    Calls Try.prog 16 #[.int .i64 i] w fun e w' => e = .returned (.tuple #[.int .i64 (i / 1048576), .int .i64 (i % 1048576), .int .i64 0]) ∧ w = w' := by
  go_enter Try.func16, Try.ntmps16
  go_wp2
  go_ret3
  exact ⟨rfl, rfl⟩

theorem ref_of_no (i : Int) (w : World) (h : i < 0 ∨ 6291456 ≤ i) :
    Calls Try.prog 16 #[.int .i64 i] w fun e w' => e = .returned (.tuple #[.int .i64 0, .int .i64 0, .int .i64 2]) ∧ w = w' := by
  rcases h with h | h
  · go_enter Try.func16, Try.ntmps16
    go_wp2
    go_ret3
    exact ⟨rfl, rfl⟩
  · have h' : ¬ i < 0 := by omega
    go_enter Try.func16, Try.ntmps16
    go_wp2
    go_ret3
    exact ⟨rfl, rfl⟩

end Go.Proofs.Ythkgbfeljgdnaaa
