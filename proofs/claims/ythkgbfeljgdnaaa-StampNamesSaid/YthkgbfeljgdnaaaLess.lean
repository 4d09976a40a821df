/-
  stamp.Less and the document's: the order of stamps. No condition.
-/
import Derived.Test.YthkgbfeljgdnaaaCmp
import Derived.Test.YthkgbfeljgdnaaaOr
import Derived.Test.YthkgbfeljgdnaaaKit
import Derived.Deep.QuietTactic
import Derived.BigQuiet
import Derived.StillTailTactics
namespace Go.Proofs.Ythkgbfeljgdnaaa
open Go.RowKit

def lessB (t i t' i' : Int) : Bool := decide (t < t' ∨ (t = t' ∧ i < i'))

set_option maxHeartbeats 800000 in
theorem less_lt (t i t' i' : Int) (h : t < t') (w : World) :
    Calls Try.prog 18 #[.agg #[.int .i64 t, .int .i64 i], .agg #[.int .i64 t', .int .i64 i']] w fun e w' => e = .returned (.bool true) ∧ Below w.heap.size w w' := by
  go_enter Try.func18, Try.ntmps18
  go_wp2_with fail
  refine wp_region_still_tail 10 (by kernel_rfl) (by kernel_rfl) ?_
  simp only [List.take_succ_cons, List.take_zero, List.drop_succ_cons, List.drop_zero]
  change wpStill _ _ (World.drew _) _ _ _
  repeat still_step
  still_call (callsFlip (compare_lt _ _ h _))
  repeat still_step
  still_call (callsFlip (compare_any _ _ _))
  refine wpStill_nil ?_
  change wpList _ _ _ _ _ (World.drew _)
  go_wp2_with fail
  refine (or_first _ (-1) _ ?x1 ?x2).mono ?_
  case x1 => decide
  case x2 => simp [go_sem]
  rintro e w' ⟨rfl, rfl⟩
  go_wp2_with fail
  go_ret
  exact ⟨rfl, by repeat (first | exact Below.refl _ _ | apply Below.drew | refine Below.alloc ?_ (by simp; try omega) _)⟩

set_option maxHeartbeats 800000 in
theorem less_gt (t i t' i' : Int) (h : t' < t) (w : World) :
    Calls Try.prog 18 #[.agg #[.int .i64 t, .int .i64 i], .agg #[.int .i64 t', .int .i64 i']] w fun e w' => e = .returned (.bool false) ∧ Below w.heap.size w w' := by
  go_enter Try.func18, Try.ntmps18
  go_wp2_with fail
  refine wp_region_still_tail 10 (by kernel_rfl) (by kernel_rfl) ?_
  simp only [List.take_succ_cons, List.take_zero, List.drop_succ_cons, List.drop_zero]
  change wpStill _ _ (World.drew _) _ _ _
  repeat still_step
  still_call (callsFlip (compare_gt _ _ h _))
  repeat still_step
  still_call (callsFlip (compare_any _ _ _))
  refine wpStill_nil ?_
  change wpList _ _ _ _ _ (World.drew _)
  go_wp2_with fail
  refine (or_first _ 1 _ ?x1 ?x2).mono ?_
  case x1 => decide
  case x2 => simp [go_sem]
  rintro e w' ⟨rfl, rfl⟩
  go_wp2_with fail
  go_ret
  exact ⟨rfl, by repeat (first | exact Below.refl _ _ | apply Below.drew | refine Below.alloc ?_ (by simp; try omega) _)⟩

set_option maxHeartbeats 800000 in
theorem less_eqlt (t i i' : Int) (h : i < i') (w : World) :
    Calls Try.prog 18 #[.agg #[.int .i64 t, .int .i64 i], .agg #[.int .i64 t, .int .i64 i']] w fun e w' => e = .returned (.bool true) ∧ Below w.heap.size w w' := by
  go_enter Try.func18, Try.ntmps18
  go_wp2_with fail
  refine wp_region_still_tail 10 (by kernel_rfl) (by kernel_rfl) ?_
  simp only [List.take_succ_cons, List.take_zero, List.drop_succ_cons, List.drop_zero]
  change wpStill _ _ (World.drew _) _ _ _
  repeat still_step
  still_call (callsFlip (compare_eq _ _))
  repeat still_step
  still_call (callsFlip (compare_lt _ _ h _))
  refine wpStill_nil ?_
  change wpList _ _ _ _ _ (World.drew _)
  go_wp2_with fail
  refine (or_second _ (-1) _ ?x1 ?x2).mono ?_
  case x1 => simp [go_sem]
  case x2 => simp [go_sem]
  rintro e w' ⟨rfl, rfl⟩
  go_wp2_with fail
  go_ret
  exact ⟨rfl, by repeat (first | exact Below.refl _ _ | apply Below.drew | refine Below.alloc ?_ (by simp; try omega) _)⟩

set_option maxHeartbeats 800000 in
theorem less_eqgt (t i i' : Int) (h : i' < i) (w : World) :
    Calls Try.prog 18 #[.agg #[.int .i64 t, .int .i64 i], .agg #[.int .i64 t, .int .i64 i']] w fun e w' => e = .returned (.bool false) ∧ Below w.heap.size w w' := by
  go_enter Try.func18, Try.ntmps18
  go_wp2_with fail
  refine wp_region_still_tail 10 (by kernel_rfl) (by kernel_rfl) ?_
  simp only [List.take_succ_cons, List.take_zero, List.drop_succ_cons, List.drop_zero]
  change wpStill _ _ (World.drew _) _ _ _
  repeat still_step
  still_call (callsFlip (compare_eq _ _))
  repeat still_step
  still_call (callsFlip (compare_gt _ _ h _))
  refine wpStill_nil ?_
  change wpList _ _ _ _ _ (World.drew _)
  go_wp2_with fail
  refine (or_second _ 1 _ ?x1 ?x2).mono ?_
  case x1 => simp [go_sem]
  case x2 => simp [go_sem]
  rintro e w' ⟨rfl, rfl⟩
  go_wp2_with fail
  go_ret
  exact ⟨rfl, by repeat (first | exact Below.refl _ _ | apply Below.drew | refine Below.alloc ?_ (by simp; try omega) _)⟩

set_option maxHeartbeats 800000 in
theorem less_eqeq (t i : Int) (w : World) :
    Calls Try.prog 18 #[.agg #[.int .i64 t, .int .i64 i], .agg #[.int .i64 t, .int .i64 i]] w fun e w' => e = .returned (.bool false) ∧ Below w.heap.size w w' := by
  go_enter Try.func18, Try.ntmps18
  go_wp2_with fail
  refine wp_region_still_tail 10 (by kernel_rfl) (by kernel_rfl) ?_
  simp only [List.take_succ_cons, List.take_zero, List.drop_succ_cons, List.drop_zero]
  change wpStill _ _ (World.drew _) _ _ _
  repeat still_step
  still_call (callsFlip (compare_eq _ _))
  repeat still_step
  still_call (callsFlip (compare_eq _ _))
  refine wpStill_nil ?_
  change wpList _ _ _ _ _ (World.drew _)
  go_wp2_with fail
  refine (or_second _ 0 _ ?x1 ?x2).mono ?_
  case x1 => simp [go_sem]
  case x2 => simp [go_sem]
  rintro e w' ⟨rfl, rfl⟩
  go_wp2_with fail
  go_ret
  exact ⟨rfl, by repeat (first | exact Below.refl _ _ | apply Below.drew | refine Below.alloc ?_ (by simp; try omega) _)⟩

theorem less_any (t i t' i' : Int) (w : World) :
    Calls Try.prog 18 #[.agg #[.int .i64 t, .int .i64 i], .agg #[.int .i64 t', .int .i64 i']] w fun e w' => e = .returned (.bool (lessB t i t' i')) ∧ Below w.heap.size w w' := by
  rcases Int.lt_trichotomy t t' with h | h | h
  · rw [show lessB t i t' i' = true from by simp [lessB, h]]; exact less_lt t i t' i' h w
  · subst h
    rcases Int.lt_trichotomy i i' with h | h | h
    · rw [show lessB t i t i' = true from by simp [lessB, h]]; exact less_eqlt t i i' h w
    · subst h
      rw [show lessB t i t i = false from by simp [lessB]]; exact less_eqeq t i w
    · rw [show lessB t i t i' = false from by simp [lessB]; omega]; exact less_eqgt t i i' h w
  · rw [show lessB t i t' i' = false from by simp [lessB]; omega]; exact less_gt t i t' i' h w

end Go.Proofs.Ythkgbfeljgdnaaa
