/-
  StampIds: for every three numbers the law returns true and leaves the world as it was. No condition.
-/
import Derived.Test.YthkgbfeljgdnaaaRows
import Derived.Test.YthkgbfeljgdnaaaLaw
import Derived.Lib.Hide
import Derived.Test.YthkgbfeljgdnaaaStampIdW
import Derived.Test.YthkgbfeljgdnaaaStampOfW
namespace Go.Proofs.Ythkgbfeljgdnaaa.StampIds
open Go.ChangeShapes Go.WideShapes Go.ChangeAt Go.RowKit

def LawEnd (w : World) (e : Ending) (w' : World) : Prop := e = .returned (.bool true) ∧ Below w.heap.size w w'

theorem walk_of (s n i : Int) (x y p q r : Int) (w : World)
    (h1 : ∀ w, Calls Try.prog 13 #[.int .i64 s, .int .i64 n] w fun e w' => e = .returned (.tuple #[.int .i64 x, .int .i64 y]) ∧ w = w')
    (h2 : ∀ w, Calls Try.prog 14 #[.int .i64 s, .int .i64 n] w fun e w' => e = .returned (.tuple #[.int .i64 x, .int .i64 y]) ∧ w = w')
    (h3 : ∀ w, Calls Try.prog 15 #[.int .i64 i] w fun e w' => e = .returned (.tuple #[.int .i64 p, .int .i64 q, .int .i64 r]) ∧ w = w')
    (h4 : ∀ w, Calls Try.prog 16 #[.int .i64 i] w fun e w' => e = .returned (.tuple #[.int .i64 p, .int .i64 q, .int .i64 r]) ∧ w = w') :
    Calls Try.prog 3 #[.int .i64 s, .int .i64 n, .int .i64 i] w (LawEnd w) := by
  have H1 := Lib.hid h1
  have H2 := Lib.hid h2
  have H3 := Lib.hid h3
  have H4 := Lib.hid h4
  clear h1 h2 h3 h4
  have e1 : (x == x) = true := by simp
  have e2 : (y == y) = true := by simp
  have e3 : (p == p) = true := by simp
  have e4 : (q == q) = true := by simp
  have e5 : (r == r) = true := by simp
  go_enter Try.func3, Try.ntmps3
  go_wp2_with fail
  refine (H1.out _).mono ?_
  rintro e w' ⟨rfl, rfl⟩
  go_wp2_with fail
  refine (H2.out _).mono ?_
  rintro e w' ⟨rfl, rfl⟩
  go_wp2_with fail
  refine (H3.out _).mono ?_
  rintro e w' ⟨rfl, rfl⟩
  go_wp2_with fail
  refine (H4.out _).mono ?_
  rintro e w' ⟨rfl, rfl⟩
  go_wp2_with fail
  go_ret
  exact ⟨rfl, Below.refl _ _⟩

theorem walk (s n i : Int) (w : World) : Calls Try.prog 3 #[.int .i64 s, .int .i64 n, .int .i64 i] w (LawEnd w) := by
  by_cases h : 0 ≤ s ∧ s < 6 ∧ 0 ≤ n ∧ n < 1048576
  · by_cases h2 : 0 ≤ i ∧ i < 6291456
    · exact walk_of s n i _ _ _ _ _ w (fun w => stamp_id_yes s n w h) (fun w => ref_id_yes s n w h) (fun w => stamp_of_yes i w h2.1 h2.2) (fun w => ref_of_yes i w h2.1 h2.2)
    · exact walk_of s n i _ _ _ _ _ w (fun w => stamp_id_yes s n w h) (fun w => ref_id_yes s n w h) (fun w => stamp_of_no i w (by omega)) (fun w => ref_of_no i w (by omega))
  · by_cases h2 : 0 ≤ i ∧ i < 6291456
    · exact walk_of s n i _ _ _ _ _ w (fun w => stamp_id_no s n w h) (fun w => ref_id_no s n w h) (fun w => stamp_of_yes i w h2.1 h2.2) (fun w => ref_of_yes i w h2.1 h2.2)
    · exact walk_of s n i _ _ _ _ _ w (fun w => stamp_id_no s n w h) (fun w => ref_id_no s n w h) (fun w => stamp_of_no i w (by omega)) (fun w => ref_of_no i w (by omega))

theorem own : ownKnob Try.prog.godebug = none := by kernel_rfl

set_option maxRecDepth 100000 in
theorem lifted (os : Os) (started : os.Started) (H : Type) (enc : TypeId × Value → H) :
    ReturnsInHanded {} Try.checked os 3 .any (Rows.stampIdsSpec.pre6 enc Try.prog Try.f3 Rows.stampIdsRow.domain false) (Rows.stampIdsSpec.post enc Try.prog Try.f3 false true false false) := by
  refine returnsInHanded_of_change_sized (C := Try.checked) own started (by kernel_rfl) Try.func3
    (ChangeSpec.witness6 (enc := enc) (C := Try.checked) false ⟨#[], #[.int .i64 0, .int .i64 0, .int .i64 0], []⟩ 8 (by kernel_rfl) (by kernel_rfl) (by kernel_rfl) (by kernel_rfl)) ?_
  intro W base args ds gs before hval0 hW hcnd hsz hholds
  have hval : ∀ (j : Nat) t v, Try.f3.params[j]? = some t → args[j]? = some v → Value.okWide Try.prog W .any base t v := hval0
  have hW' := hW
  obtain ⟨p, q, hA0, hV, _, _, _⟩ := hW
  have hA : DataW.TrodAll enc Try.prog W 0 (fun _ => true) true Try.f3.params.toList args.toList ds p := hA0
  rw [Try.params3] at hA hval
  obtain ⟨v0, vs0, d0, ds0, p0, q0, hargs, rfl, rfl, h0, r0⟩ := trodAll_cons hA
  obtain ⟨v1, vs1, d1, ds1, p1, q1, rfl, rfl, rfl, h1, r1⟩ := trodAll_cons r0
  obtain ⟨v2, vs2, d2, ds2, p2, q2, rfl, rfl, rfl, h2, r2⟩ := trodAll_cons r1
  obtain ⟨rfl, rfl, rfl⟩ := trodAll_nil r2
  obtain rfl : args = #[v0, v1, v2] := by cases args; simp_all
  obtain ⟨rfl, _⟩ := trodVars_none hV
  obtain ⟨a0, rfl, rfl, _, _⟩ := open_int Try.underlying3 (hval 0 _ v0 rfl rfl) h0
  obtain ⟨a1, rfl, rfl, _, _⟩ := open_int Try.underlying3 (hval 1 _ v1 rfl rfl) h1
  obtain ⟨a2, rfl, rfl, _, _⟩ := open_int Try.underlying3 (hval 2 _ v2 rfl rfl) h2
  refine (walk a0 a1 a2 W).mono fun e W' ⟨he, hb⟩ => ?_
  subst he
  exact ⟨_, rfl, law_post hW' rfl rfl rfl Try.underlying4 (by kernel_rfl) (by kernel_rfl) hb⟩

theorem over : Rows.stampIdsRow.holds Try.pinned (OpenSpec.ofChange Rows.stampIdsSpec) :=
  OpenClaim.holds_of_wide 3 Try.f3 rfl rfl rfl rfl rfl rfl rfl ⟨rfl, rfl, rfl, rfl, rfl⟩ rfl rfl rfl rfl rfl (by kernel_rfl) Try.func3 (by kernel_rfl)
    (of_decide_eq_true (by kernel_rfl)) (by unfold Func.isWrapper; rw [if_neg (of_decide_eq_false (by kernel_rfl))]; exact ⟨rfl, rfl⟩)
    (fun os started H enc _ => lifted os started H enc)

theorem proved : Rows.StampIdsSaid := over
#print axioms proved
end Go.Proofs.Ythkgbfeljgdnaaa.StampIds
