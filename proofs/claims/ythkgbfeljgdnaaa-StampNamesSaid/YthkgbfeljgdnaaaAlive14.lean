/-
  The examples of chapter 14 hold. No condition.
-/
import Derived.Test.YthkgbfeljgdnaaaLess
namespace Go.Proofs.Ythkgbfeljgdnaaa
open Go.RowKit

set_option maxHeartbeats 1000000 in
theorem alive14 (w : World) : Calls Try.prog 17 #[] w fun e w' => e = .returned (.bool true) ∧ Below w.heap.size w w' := by
  have l1 : lessB 3 9 4 1 = true := by decide
  have l2 : lessB 3 9 3 8 = false := by decide
  have l3 : lessB 3 9 3 9 = false := by decide
  go_enter Try.func17, Try.ntmps17
  go_wp2_with fail
  refine (less_any _ _ _ _ _).mono ?_
  rintro e w1 ⟨rfl, hb1⟩
  have c10 := keep hb1 (a := ⟨w.heap.size, 0, none⟩) (v := .int .i64 3) (by simp)
  have c11 := keep hb1 (a := ⟨w.heap.size, 1, none⟩) (v := .int .i64 9) (by simp)
  have hz1 := hb1.size
  simp at hz1
  go_wp2_with fail
  refine (less_any _ _ _ _ _).mono ?_
  rintro e w2 ⟨rfl, hb2⟩
  have c20 := keep hb2 c10
  have c21 := keep hb2 c11
  have hz2 := hb2.size
  go_wp2_with fail
  refine (less_any _ _ _ _ _).mono ?_
  rintro e w3 ⟨rfl, hb3⟩
  go_wp2_with fail
  go_ret
  refine ⟨rfl, ?_⟩
  refine Below.trans (b := w1) ?_ (Below.trans (b := w2) (hb2.mono (by omega)) (hb3.mono (by omega)))
  refine Below.trans ?_ (hb1.mono (by simp))
  exact (Below.refl _ _).alloc (Nat.le_refl _) _

end Go.Proofs.Ythkgbfeljgdnaaa
