/-
  CommitsNames: the law returns true and leaves the old world as it was. No condition.
-/
import Derived.Test.YthkgbfeljgdnaaaRows
import Derived.Test.YthkgbfeljgdnaaaLaw
import Derived.Test.YthkgbfeljgdnaaaComLaw
namespace Go.Proofs.Ythkgbfeljgdnaaa.CommitsNames
open Go.ChangeShapes Go.WideShapes Go.ChangeAt Go.RowKit

theorem chk {v : Value} {m : List (List Int)} {w : World} {c : Int} (h : RowsR w v m) (hc : (if okC m then (0 : Int) else 8) = c) :
    Calls Try.prog 29 #[v] w fun e w' => e = .returned (.int .i64 c) ∧ Below w.heap.size w w' := by rw [← hc]; exact comCheck_any h
theorem nilRows (w : World) : RowsR w (.slice none 0 0) [] := (OwnRows.nil 0 1 w 0).reads

set_option maxHeartbeats 2000000 in
theorem walk (w : World) : Calls Try.prog 8 #[] w (LawEnd w) := by
  go_enter Try.func8, Try.ntmps8
  go_wp2_with fail
  refine (new_any _).mono ?_
  rintro e w1 ⟨v1, rfl, o1, b1⟩
  obtain ⟨a1, n1, c1, e1⟩ := o1.reads.shape
  subst e1
  have O1 := Lib.hid o1
  clear o1
  go_wp2_with fail
  refine (set_no 4 0 0 O1.out.reads 2 (Or.inl (by decide))).mono ?_
  rintro e w2 ⟨rfl, b2⟩
  go_wp2_with fail
  refine (new_any _).mono ?_
  rintro e w3 ⟨v3, rfl, o3, b3⟩
  obtain ⟨a3, n3, c3, e3⟩ := o3.reads.shape
  subst e3
  have O3 := Lib.hid o3
  clear o3
  go_wp2_with fail
  refine (get_any 0 8 O3.out.reads).mono ?_
  rintro e w4 ⟨rfl, b4⟩
  rw [show askC newC 0 8 = 2 by decide]
  go_wp2_with fail
  refine (new_any _).mono ?_
  rintro e w5 ⟨v5, rfl, o5, b5⟩
  obtain ⟨a5, n5, c5, e5⟩ := o5.reads.shape
  subst e5
  have O5 := Lib.hid o5
  clear o5
  go_wp2_with fail
  refine (set_no 0 0 (-1) O5.out.reads 2 (Or.inr (by decide))).mono ?_
  rintro e w6 ⟨rfl, b6⟩
  go_wp2_with fail
  refine (alive20 _).mono ?_
  rintro e w7 ⟨rfl, b7⟩
  go_wp2_with fail
  refine (chk (c := 8) (nilRows _) (by decide)).mono ?_
  rintro e w8 ⟨rfl, b8⟩
  go_wp2_with fail
  refine (new_any _).mono ?_
  rintro e w9 ⟨v9, rfl, o9, b9⟩
  obtain ⟨a9, n9, c9, e9⟩ := o9.reads.shape
  subst e9
  have O9 := Lib.hid o9
  clear o9
  go_wp2_with fail
  refine (chk (c := 0) O9.out.reads (by decide)).mono ?_
  rintro e w10 ⟨rfl, b10⟩
  go_wp2_with fail
  go_ret
  have z1 := b1.size
  have z2 := b2.size
  have z3 := b3.size
  have z4 := b4.size
  have z5 := b5.size
  have z6 := b6.size
  have z7 := b7.size
  have z8 := b8.size
  have z9 := b9.size
  exact ⟨rfl, ((((((((b1.trans (b2.mono (by omega))).trans (b3.mono (by omega))).trans (b4.mono (by omega))).trans (b5.mono (by omega))).trans (b6.mono (by omega))).trans (b7.mono (by omega))).trans (b8.mono (by omega))).trans (b9.mono (by omega))).trans (b10.mono (by omega))⟩

theorem own : ownKnob Try.prog.godebug = none := by kernel_rfl

set_option maxRecDepth 100000 in
set_option linter.unusedVariables false in
theorem lifted (os : Os) (started : os.Started) (H : Type) (enc : TypeId × Value → H) :
    ReturnsInHanded {} Try.checked os 8 .any (Rows.commitsNamesSpec.pre6 enc Try.prog Try.f8 Rows.commitsNamesRow.domain false) (Rows.commitsNamesSpec.post enc Try.prog Try.f8 false true false false) := by
  refine returnsInHanded_of_change_sized (C := Try.checked) own started (by kernel_rfl) Try.func8
    (ChangeSpec.witness6 (enc := enc) (C := Try.checked) false ⟨#[], #[], []⟩ 8 (by kernel_rfl) (by kernel_rfl) (by kernel_rfl) (by kernel_rfl)) ?_
  intro W base args ds gs before hval0 hW hcnd hsz0 hholds
  have hsz : (DataW.weightsEach Try.prog (Try.f8.params.toList ++ Rows.commitsNamesSpec.plain.varTypes Try.prog) (ds ++ gs)).all (· ≤ reachBytes) = true := hsz0
  have hval : ∀ (j : Nat) t v, Try.f8.params[j]? = some t → args[j]? = some v → Value.okWide Try.prog W .any base t v := hval0
  have hW' := hW
  obtain ⟨p, q, hA0, hV, _, hfz, _⟩ := hW
  have hA : DataW.TrodAll enc Try.prog W 0 (fun _ => true) true Try.f8.params.toList args.toList ds p := hA0
  rw [Try.params8] at hA hval hsz
  obtain ⟨rfl, rfl, rfl⟩ := trodAll_none hA
  obtain ⟨rfl, _⟩ := trodVars_none hV
  refine (walk W).mono fun e W' ⟨he, hb⟩ => ?_
  subst he
  exact ⟨_, rfl, law_post hW' rfl rfl rfl Try.underlying4 (by kernel_rfl) (by kernel_rfl) hb⟩

theorem over : Rows.commitsNamesRow.holds Try.pinned (OpenSpec.ofChange Rows.commitsNamesSpec) :=
  OpenClaim.holds_of_wide 8 Try.f8 rfl rfl rfl rfl rfl rfl rfl ⟨rfl, rfl, rfl, rfl, rfl⟩ rfl rfl rfl rfl rfl (by kernel_rfl) Try.func8 (by kernel_rfl)
    (of_decide_eq_true (by kernel_rfl)) (by unfold Func.isWrapper; rw [if_neg (of_decide_eq_false (by kernel_rfl))]; exact ⟨rfl, rfl⟩)
    (fun os started H enc _ => lifted os started H enc)

theorem proved : Rows.CommitsNamesSaid := over
#print axioms proved

end Go.Proofs.Ythkgbfeljgdnaaa.CommitsNames
