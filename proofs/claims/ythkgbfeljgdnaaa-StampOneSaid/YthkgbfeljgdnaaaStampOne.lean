/-
  StampOne: for every three numbers the law returns true and leaves the old world as it was. No condition.
-/
import Derived.Test.YthkgbfeljgdnaaaRows
import Derived.Test.YthkgbfeljgdnaaaLaw
import Derived.Test.YthkgbfeljgdnaaaKit
import Derived.Test.YthkgbfeljgdnaaaAlive14
import Derived.Test.YthkgbfeljgdnaaaStampIdW
import Derived.Test.YthkgbfeljgdnaaaStampOfW
namespace Go.Proofs.Ythkgbfeljgdnaaa.StampOne
open Go.ChangeShapes Go.WideShapes Go.ChangeAt Go.RowKit

theorem of_id (s n : Int) (h : 0 ≤ s ∧ s < 6 ∧ 0 ≤ n ∧ n < 1048576) (w : World) :
    Calls Try.prog 15 #[.int .i64 (s * 1048576 + n)] w fun e w' => e = .returned (.tuple #[.int .i64 s, .int .i64 n, .int .i64 0]) ∧ w = w' := by
  have := stamp_of_yes (s * 1048576 + n) w (by omega) (by omega)
  rw [show (s * 1048576 + n) / 1048576 = s by omega, show (s * 1048576 + n) % 1048576 = n by omega] at this
  exact this
theorem id_of (i : Int) (h1 : 0 ≤ i) (h2 : i < 6291456) (w : World) :
    Calls Try.prog 13 #[.int .i64 (i / 1048576), .int .i64 (i % 1048576)] w fun e w' => e = .returned (.tuple #[.int .i64 i, .int .i64 0]) ∧ w = w' := by
  have := stamp_id_yes (i / 1048576) (i % 1048576) w (by omega)
  rw [show i / 1048576 * 1048576 + i % 1048576 = i by omega] at this
  exact this

theorem walk_of (s n i : Int) (w : World) (y1 y2 : Bool)
    (h1 : if y1 then (0 ≤ s ∧ s < 6 ∧ 0 ≤ n ∧ n < 1048576) else ¬ (0 ≤ s ∧ s < 6 ∧ 0 ≤ n ∧ n < 1048576))
    (h2 : if y2 then (0 ≤ i ∧ i < 6291456) else (i < 0 ∨ 6291456 ≤ i)) :
    Calls Try.prog 6 #[.int .i64 s, .int .i64 n, .int .i64 i] w (LawEnd w) := by
  have ss : (s != s) = false := by simp
  have nn : (n != n) = false := by simp
  have ii : (i == i) = true := by simp
  cases y1 <;> cases y2 <;> simp only [if_true, Bool.false_eq_true, if_false] at h1 h2
  · have H1 := Lib.hid (fun w => stamp_id_no s n w h1)
    have H2 := Lib.hid (fun w => stamp_of_no i w h2)
    clear h1 h2
    go_enter Try.func6, Try.ntmps6
    go_wp2_with fail
    refine (alive14 _).mono ?_
    rintro e w1 ⟨rfl, hb1⟩
    go_wp2_with fail
    refine (H1.out _).mono ?_
    rintro e w2 ⟨rfl, rfl⟩
    go_wp2_with fail
    refine (H2.out _).mono ?_
    rintro e w3 ⟨rfl, rfl⟩
    go_wp2_with fail
    go_ret
    exact ⟨rfl, hb1⟩
  · have H1 := Lib.hid (fun w => stamp_id_no s n w h1)
    have H2 := Lib.hid (fun w => stamp_of_yes i w h2.1 h2.2)
    have H3 := Lib.hid (id_of i h2.1 h2.2)
    clear h1 h2
    go_enter Try.func6, Try.ntmps6
    go_wp2_with fail
    refine (alive14 _).mono ?_
    rintro e w1 ⟨rfl, hb1⟩
    go_wp2_with fail
    refine (H1.out _).mono ?_
    rintro e w2 ⟨rfl, rfl⟩
    go_wp2_with fail
    refine (H2.out _).mono ?_
    rintro e w3 ⟨rfl, rfl⟩
    go_wp2_with fail
    refine (H3.out _).mono ?_
    rintro e w4 ⟨rfl, rfl⟩
    go_wp2_with fail
    go_ret
    exact ⟨rfl, hb1⟩
  · have H1 := Lib.hid (fun w => stamp_id_yes s n w h1)
    have H4 := Lib.hid (of_id s n h1)
    have H2 := Lib.hid (fun w => stamp_of_no i w h2)
    clear h1 h2
    go_enter Try.func6, Try.ntmps6
    go_wp2_with fail
    refine (alive14 _).mono ?_
    rintro e w1 ⟨rfl, hb1⟩
    go_wp2_with fail
    refine (H1.out _).mono ?_
    rintro e w2 ⟨rfl, rfl⟩
    go_wp2_with fail
    refine (H4.out _).mono ?_
    rintro e w3 ⟨rfl, rfl⟩
    go_wp2_with fail
    refine (H2.out _).mono ?_
    rintro e w4 ⟨rfl, rfl⟩
    go_wp2_with fail
    go_ret
    exact ⟨rfl, hb1⟩
  · have H1 := Lib.hid (fun w => stamp_id_yes s n w h1)
    have H4 := Lib.hid (of_id s n h1)
    have H2 := Lib.hid (fun w => stamp_of_yes i w h2.1 h2.2)
    have H3 := Lib.hid (id_of i h2.1 h2.2)
    clear h1 h2
    go_enter Try.func6, Try.ntmps6
    go_wp2_with fail
    refine (alive14 _).mono ?_
    rintro e w1 ⟨rfl, hb1⟩
    go_wp2_with fail
    refine (H1.out _).mono ?_
    rintro e w2 ⟨rfl, rfl⟩
    go_wp2_with fail
    refine (H4.out _).mono ?_
    rintro e w3 ⟨rfl, rfl⟩
    go_wp2_with fail
    refine (H2.out _).mono ?_
    rintro e w4 ⟨rfl, rfl⟩
    go_wp2_with fail
    refine (H3.out _).mono ?_
    rintro e w5 ⟨rfl, rfl⟩
    go_wp2_with fail
    go_ret
    exact ⟨rfl, hb1⟩

theorem walk (s n i : Int) (w : World) : Calls Try.prog 6 #[.int .i64 s, .int .i64 n, .int .i64 i] w (LawEnd w) := by
  by_cases h1 : 0 ≤ s ∧ s < 6 ∧ 0 ≤ n ∧ n < 1048576 <;> by_cases h2 : 0 ≤ i ∧ i < 6291456
  · exact walk_of s n i w true true (by simpa using h1) (by simpa using h2)
  · exact walk_of s n i w true false (by simpa using h1) (by simp; omega)
  · exact walk_of s n i w false true (by simpa using h1) (by simpa using h2)
  · exact walk_of s n i w false false (by simpa using h1) (by simp; omega)

theorem own : ownKnob Try.prog.godebug = none := by kernel_rfl

set_option maxRecDepth 100000 in
set_option linter.unusedVariables false in
theorem lifted (os : Os) (started : os.Started) (H : Type) (enc : TypeId × Value → H) :
    ReturnsInHanded {} Try.checked os 6 .any (Rows.stampOneSpec.pre6 enc Try.prog Try.f6 Rows.stampOneRow.domain false) (Rows.stampOneSpec.post enc Try.prog Try.f6 false true false false) := by
  refine returnsInHanded_of_change_sized (C := Try.checked) own started (by kernel_rfl) Try.func6
    (ChangeSpec.witness6 (enc := enc) (C := Try.checked) false ⟨#[], #[.int .i64 0, .int .i64 0, .int .i64 0], []⟩ 8 (by kernel_rfl) (by kernel_rfl) (by kernel_rfl) (by kernel_rfl)) ?_
  intro W base args ds gs before hval0 hW hcnd hsz hholds
  have hval : ∀ (j : Nat) t v, Try.f6.params[j]? = some t → args[j]? = some v → Value.okWide Try.prog W .any base t v := hval0
  have hW' := hW
  obtain ⟨p, q, hA0, hV, _, hfz, _⟩ := hW
  have hA : DataW.TrodAll enc Try.prog W 0 (fun _ => true) true Try.f6.params.toList args.toList ds p := hA0
  rw [Try.params6] at hA hval
  obtain ⟨v0, vs0, d0, ds0, p0, q0, hargs, rfl, rfl, h0, r0⟩ := trodAll_cons hA
  obtain ⟨v1, vs1, d1, ds1, p1, q1, rfl, rfl, rfl, h1, r1⟩ := trodAll_cons r0
  obtain ⟨v2, vs2, d2, ds2, p2, q2, rfl, rfl, rfl, h2, r2⟩ := trodAll_cons r1
  obtain ⟨rfl, rfl, rfl⟩ := trodAll_nil r2
  obtain rfl : args = #[v0, v1, v2] := by cases args; simp_all
  obtain ⟨rfl, _⟩ := trodVars_none hV
  obtain ⟨a0, rfl, rfl, _, w0⟩ := open_int Try.underlying3 (hval 0 _ v0 rfl rfl) h0
  obtain ⟨a1, rfl, rfl, _, w1⟩ := open_int Try.underlying3 (hval 1 _ v1 rfl rfl) h1
  obtain ⟨a2, rfl, rfl, _, w2⟩ := open_int Try.underlying3 (hval 2 _ v2 rfl rfl) h2
  refine (walk a0 a1 a2 W).mono fun e W' ⟨he, hb⟩ => ?_
  subst he
  exact ⟨_, rfl, law_post hW' rfl rfl rfl Try.underlying4 (by kernel_rfl) (by kernel_rfl) hb⟩

theorem over : Rows.stampOneRow.holds Try.pinned (OpenSpec.ofChange Rows.stampOneSpec) :=
  OpenClaim.holds_of_wide 6 Try.f6 rfl rfl rfl rfl rfl rfl rfl ⟨rfl, rfl, rfl, rfl, rfl⟩ rfl rfl rfl rfl rfl (by kernel_rfl) Try.func6 (by kernel_rfl)
    (of_decide_eq_true (by kernel_rfl)) (by unfold Func.isWrapper; rw [if_neg (of_decide_eq_false (by kernel_rfl))]; exact ⟨rfl, rfl⟩)
    (fun os started H enc _ => lifted os started H enc)

theorem proved : Rows.StampOneSaid := over
#print axioms proved

end Go.Proofs.Ythkgbfeljgdnaaa.StampOne
