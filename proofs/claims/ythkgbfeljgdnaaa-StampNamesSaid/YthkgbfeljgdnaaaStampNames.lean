/-
  StampNames: the law returns true and leaves the old world as it was. No condition.
-/
import Derived.Test.YthkgbfeljgdnaaaRows
import Derived.Test.YthkgbfeljgdnaaaLaw
import Derived.Test.YthkgbfeljgdnaaaKit
import Derived.Test.YthkgbfeljgdnaaaStCheck
import Derived.Test.YthkgbfeljgdnaaaRises
import Derived.Test.YthkgbfeljgdnaaaAlive14
import Derived.Test.YthkgbfeljgdnaaaStampIdW
import Derived.Test.YthkgbfeljgdnaaaStampOfW
namespace Go.Proofs.Ythkgbfeljgdnaaa.StampNames
open Go.ChangeShapes Go.WideShapes Go.ChangeAt Go.RowKit

theorem k1 (w : World) : Calls Try.prog 13 #[.int .i64 2, .int .i64 5] w fun e w' => e = .returned (.tuple #[.int .i64 2097157, .int .i64 0]) ∧ w = w' := stamp_id_yes 2 5 w (by decide)
theorem k2 (w : World) : Calls Try.prog 15 #[.int .i64 2097157] w fun e w' => e = .returned (.tuple #[.int .i64 2, .int .i64 5, .int .i64 0]) ∧ w = w' := stamp_of_yes 2097157 w (by decide) (by decide)
theorem k3 (w : World) : Calls Try.prog 13 #[.int .i64 6, .int .i64 0] w fun e w' => e = .returned (.tuple #[.int .i64 0, .int .i64 2]) ∧ w = w' := stamp_id_no 6 0 w (by decide)
theorem k4 (w : World) : Calls Try.prog 15 #[.int .i64 (-1)] w fun e w' => e = .returned (.tuple #[.int .i64 0, .int .i64 0, .int .i64 2]) ∧ w = w' := stamp_of_no (-1) w (by decide)
theorem k5 (w : World) : Calls Try.prog 19 #[.slice none 0 0] w fun e w' => e = .returned (.bool true) ∧ Below w.heap.size w w' := rises_few none 0 0 [] w rfl (by decide)
theorem k6 (w : World) : Calls Try.prog 20 #[.agg #[.int .i64 (-1), .int .i64 0]] w fun e w' => e = .returned (.int .i64 8) ∧ Below w.heap.size w w' := stcheck_no _ _ w (by decide)
theorem k7 (w : World) : Calls Try.prog 20 #[.agg #[.int .i64 0, .int .i64 0]] w fun e w' => e = .returned (.int .i64 0) ∧ Below w.heap.size w w' := stcheck_yes _ _ w (by decide) (by decide) (by decide) (by decide)

set_option maxHeartbeats 1000000 in
theorem walk (w : World) : Calls Try.prog 10 #[] w (LawEnd w) := by
  go_enter Try.func10, Try.ntmps10
  go_wp2_with fail
  refine (k1 _).mono ?_
  rintro e w1 ⟨rfl, rfl⟩
  go_wp2_with fail
  refine (k2 _).mono ?_
  rintro e w2 ⟨rfl, rfl⟩
  go_wp2_with fail
  refine (k3 _).mono ?_
  rintro e w3 ⟨rfl, rfl⟩
  go_wp2_with fail
  refine (k4 _).mono ?_
  rintro e w4 ⟨rfl, rfl⟩
  go_wp2_with fail
  refine (alive14 _).mono ?_
  rintro e w5 ⟨rfl, h5⟩
  go_wp2_with fail
  refine (k5 _).mono ?_
  rintro e w6 ⟨rfl, h6⟩
  go_wp2_with fail
  refine (k6 _).mono ?_
  rintro e w7 ⟨rfl, h7⟩
  go_wp2_with fail
  refine (k7 _).mono ?_
  rintro e w8 ⟨rfl, h8⟩
  go_wp2_with fail
  go_ret
  exact ⟨rfl, ((h5.trans (h6.mono h5.size)).trans (h7.mono (Nat.le_trans h5.size h6.size))).trans (h8.mono (Nat.le_trans h5.size (Nat.le_trans h6.size h7.size)))⟩

theorem own : ownKnob Try.prog.godebug = none := by kernel_rfl

set_option maxRecDepth 100000 in
set_option linter.unusedVariables false in
theorem lifted (os : Os) (started : os.Started) (H : Type) (enc : TypeId × Value → H) :
    ReturnsInHanded {} Try.checked os 10 .any (Rows.stampNamesSpec.pre6 enc Try.prog Try.f10 Rows.stampNamesRow.domain false) (Rows.stampNamesSpec.post enc Try.prog Try.f10 false true false false) := by
  refine returnsInHanded_of_change_sized (C := Try.checked) own started (by kernel_rfl) Try.func10
    (ChangeSpec.witness6 (enc := enc) (C := Try.checked) false ⟨#[], #[], []⟩ 8 (by kernel_rfl) (by kernel_rfl) (by kernel_rfl) (by kernel_rfl)) ?_
  intro W base args ds gs before hval0 hW hcnd hsz0 hholds
  have hsz : (DataW.weightsEach Try.prog (Try.f10.params.toList ++ Rows.stampNamesSpec.plain.varTypes Try.prog) (ds ++ gs)).all (· ≤ reachBytes) = true := hsz0
  have hval : ∀ (j : Nat) t v, Try.f10.params[j]? = some t → args[j]? = some v → Value.okWide Try.prog W .any base t v := hval0
  have hW' := hW
  obtain ⟨p, q, hA0, hV, _, hfz, _⟩ := hW
  have hA : DataW.TrodAll enc Try.prog W 0 (fun _ => true) true Try.f10.params.toList args.toList ds p := hA0
  rw [Try.params10] at hA hval hsz
  obtain ⟨rfl, rfl, rfl⟩ := trodAll_none hA
  obtain ⟨rfl, _⟩ := trodVars_none hV
  refine (walk W).mono fun e W' ⟨he, hb⟩ => ?_
  subst he
  exact ⟨_, rfl, law_post hW' rfl rfl rfl Try.underlying4 (by kernel_rfl) (by kernel_rfl) hb⟩

theorem over : Rows.stampNamesRow.holds Try.pinned (OpenSpec.ofChange Rows.stampNamesSpec) :=
  OpenClaim.holds_of_wide 10 Try.f10 rfl rfl rfl rfl rfl rfl rfl ⟨rfl, rfl, rfl, rfl, rfl⟩ rfl rfl rfl rfl rfl (by kernel_rfl) Try.func10 (by kernel_rfl)
    (of_decide_eq_true (by kernel_rfl)) (by unfold Func.isWrapper; rw [if_neg (of_decide_eq_false (by kernel_rfl))]; exact ⟨rfl, rfl⟩)
    (fun os started H enc _ => lifted os started H enc)

theorem proved : Rows.StampNamesSaid := over
#print axioms proved

end Go.Proofs.Ythkgbfeljgdnaaa.StampNames
