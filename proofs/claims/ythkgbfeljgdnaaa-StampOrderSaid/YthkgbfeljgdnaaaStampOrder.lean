/-
  StampOrder: for every three stamps the law returns true and leaves the old world as it was. No condition.
-/
import Derived.Test.YthkgbfeljgdnaaaRows
import Derived.Test.YthkgbfeljgdnaaaLaw
import Derived.Test.YthkgbfeljgdnaaaKit
import Derived.Test.YthkgbfeljgdnaaaRead
import Derived.Test.YthkgbfeljgdnaaaAlive14
import Derived.Test.YthkgbfeljgdnaaaRises
import Derived.Test.YthkgbfeljgdnaaaStEq
import Derived.Lib.Hide
namespace Go.Proofs.Ythkgbfeljgdnaaa.StampOrder
open Go.ChangeShapes Go.WideShapes Go.ChangeAt Go.RowKit

theorem less_of {x y : Int × Int} {c : Bool} (h : lessP x y = c) (w : World) : Calls Try.prog 18 #[.agg #[.int .i64 x.1, .int .i64 x.2], .agg #[.int .i64 y.1, .int .i64 y.2]] w fun e w' => e = .returned (.bool c) ∧ Below w.heap.size w w' := by
  rw [← h]; exact less_any _ _ _ _ w

set_option maxHeartbeats 2000000 in
theorem walk_of (a b c : Int × Int) (eq one two bc ac : Bool) (he : eqSt a b = eq) (h1 : lessP a b = one) (h2 : lessP b a = two) (h3 : lessP b c = bc) (h4 : lessP a c = ac)
    (hok : (if eq then !one && !two else (one != two) && (!one || !bc || ac)) = true) (w : World) :
    Calls Try.prog 4 #[.agg #[.int .i64 a.1, .int .i64 a.2], .agg #[.int .i64 b.1, .int .i64 b.2], .agg #[.int .i64 c.1, .int .i64 c.2]] w (LawEnd w) := by
  have HE := Lib.hid (st_eql a.1 a.2 b.1 b.2)
  have HG := st_eqGuard
  have H1 := Lib.hid (less_of h1)
  have H2 := Lib.hid (less_of h2)
  have H3 := Lib.hid (less_of h3)
  have H4 := Lib.hid (less_of h4)
  have he' : eqSt (a.1, a.2) (b.1, b.2) = eq := he
  rw [he'] at HE
  clear h1 h2 h3 h4 he he'
  cases eq <;> cases one <;> cases two <;> cases bc <;> cases ac <;> first
  | (exfalso; revert hok; decide)
  | skip
  all_goals
    clear hok
    have HEe := HE.out
    go_enter Try.func4, Try.ntmps4
    go_wp2_with fail
    refine (alive14 _).mono ?_
    rintro e w1 ⟨rfl, hb1⟩
    have a10 := keep hb1 (a := ⟨w.heap.size, 0, none⟩) (v := .int .i64 a.1) (by go_simp)
    have a11 := keep hb1 (a := ⟨w.heap.size, 1, none⟩) (v := .int .i64 a.2) (by go_simp)
    have b10 := keep hb1 (a := ⟨w.heap.size + 1, 0, none⟩) (v := .int .i64 b.1) (by go_simp)
    have b11 := keep hb1 (a := ⟨w.heap.size + 1, 1, none⟩) (v := .int .i64 b.2) (by go_simp)
    have c10 := keep hb1 (a := ⟨w.heap.size + 1 + 1, 0, none⟩) (v := .int .i64 c.1) (by go_simp)
    have c11 := keep hb1 (a := ⟨w.heap.size + 1 + 1, 1, none⟩) (v := .int .i64 c.2) (by go_simp)
    have z1 := hb1.size
    simp at z1
    go_wp2_with fail
    refine (H1.out _).mono ?_
    rintro e w2 ⟨rfl, hb2⟩
    have a20 := keep hb2 a10
    have a21 := keep hb2 a11
    have b20 := keep hb2 b10
    have b21 := keep hb2 b11
    have c20 := keep hb2 c10
    have c21 := keep hb2 c11
    have z2 := hb2.size
    go_wp2_with fail
    refine (H2.out _).mono ?_
    rintro e w3 ⟨rfl, hb3⟩
    have a30 := keep hb3 a20
    have a31 := keep hb3 a21
    have b30 := keep hb3 b20
    have b31 := keep hb3 b21
    have c30 := keep hb3 c20
    have c31 := keep hb3 c21
    have z3 := hb3.size
    have hb : Below w.heap.size w w3 := (((Below.refl _ _).alloc (Nat.le_refl _) _ |>.alloc (by simp) _ |>.alloc (by simp; omega) _).trans (hb1.mono (by simp; omega))).trans ((hb2.mono (by omega)).trans (hb3.mono (by omega)))
    clear hb1 hb2 a10 a11 b10 b11 c10 c11 a20 a21 b20 b21 c20 c21
    go_wp2_with fail
  all_goals first
  | (go_ret; exact ⟨rfl, hb⟩)
  | skip
  all_goals
    refine (H3.out _).mono ?_
    rintro e w4 ⟨rfl, hb4⟩
    have a40 := keep hb4 a30
    have a41 := keep hb4 a31
    have c40 := keep hb4 c30
    have c41 := keep hb4 c31
    have z4 := hb4.size
    have hb5 := hb.trans (hb4.mono (by omega))
    go_wp2_with fail
  all_goals first
  | (go_ret; exact ⟨rfl, hb5⟩)
  | skip
  all_goals
    refine (H4.out _).mono ?_
    rintro e w5 ⟨rfl, hb6⟩
    have hb7 := hb5.trans (hb6.mono (by omega))
    go_wp2_with fail
    go_ret
    exact ⟨rfl, hb7⟩

theorem law (a b c : Int × Int) : (if eqSt a b then !lessP a b && !lessP b a else (lessP a b != lessP b a) && (!lessP a b || !lessP b c || lessP a c)) = true := by
  obtain ⟨a1, a2⟩ := a
  obtain ⟨b1, b2⟩ := b
  obtain ⟨c1, c2⟩ := c
  by_cases h : eqSt (a1, a2) (b1, b2) = true
  · rw [if_pos h]
    have := (eqSt_iff _ _).1 h
    cases this
    simp [lessP, lessB]
  · rw [if_neg h]
    have h' : ¬ (a1 = b1 ∧ a2 = b2) := fun ⟨x, y⟩ => h ((eqSt_iff _ _).2 (by rw [x, y]))
    simp only [lessP, lessB, Bool.and_eq_true, bne_iff_ne, ne_eq, decide_eq_decide, Bool.or_eq_true, Bool.not_eq_true', decide_eq_false_iff_not, decide_eq_true_eq]
    omega

theorem walk (a b c : Int × Int) (w : World) : Calls Try.prog 4 #[stVal a, stVal b, stVal c] w (LawEnd w) :=
  walk_of a b c _ _ _ _ _ rfl rfl rfl rfl rfl (law a b c) w

theorem cells_st : Try.prog.cellsOf 33 = 2 := by kernel_rfl
theorem cells_int : Try.prog.cellsOf 3 = 1 := by kernel_rfl

theorem own : ownKnob Try.prog.godebug = none := by kernel_rfl

set_option maxRecDepth 100000 in
set_option linter.unusedVariables false in
theorem lifted (os : Os) (started : os.Started) (H : Type) (enc : TypeId × Value → H) :
    ReturnsInHanded {} Try.checked os 4 .any (Rows.stampOrderSpec.pre6 enc Try.prog Try.f4 Rows.stampOrderRow.domain false) (Rows.stampOrderSpec.post enc Try.prog Try.f4 false true false false) := by
  refine returnsInHanded_of_change_sized (C := Try.checked) own started (by kernel_rfl) Try.func4
    (ChangeSpec.witness6 (enc := enc) (C := Try.checked) false ⟨#[], #[.agg #[.int .i64 0, .int .i64 0], .agg #[.int .i64 0, .int .i64 0], .agg #[.int .i64 0, .int .i64 0]], []⟩ 8 (by kernel_rfl) (by kernel_rfl) (by kernel_rfl) (by kernel_rfl)) ?_
  intro W base args ds gs before hval0 hW hcnd hsz hholds
  have hval : ∀ (j : Nat) t v, Try.f4.params[j]? = some t → args[j]? = some v → Value.okWide Try.prog W .any base t v := hval0
  have hW' := hW
  obtain ⟨p, q, hA0, hV, _, hfz, _⟩ := hW
  have hA : DataW.TrodAll enc Try.prog W 0 (fun _ => true) true Try.f4.params.toList args.toList ds p := hA0
  rw [Try.params4] at hA hval
  obtain ⟨v0, vs0, d0, ds0, p0, q0, hargs, rfl, rfl, h0, r0⟩ := trodAll_cons hA
  obtain ⟨v1, vs1, d1, ds1, p1, q1, rfl, rfl, rfl, h1, r1⟩ := trodAll_cons r0
  obtain ⟨v2, vs2, d2, ds2, p2, q2, rfl, rfl, rfl, h2, r2⟩ := trodAll_cons r1
  obtain ⟨rfl, rfl, rfl⟩ := trodAll_nil r2
  obtain rfl : args = #[v0, v1, v2] := by cases args; simp_all
  obtain ⟨rfl, _⟩ := trodVars_none hV
  obtain ⟨a0, rfl, w0⟩ := open_stamp (hval 0 _ v0 rfl rfl) h0 Try.underlying33 cells_st Try.underlying3 cells_int ⟨rfl, rfl⟩ ⟨rfl, rfl⟩
  obtain ⟨a1, rfl, w1⟩ := open_stamp (hval 1 _ v1 rfl rfl) h1 Try.underlying33 cells_st Try.underlying3 cells_int ⟨rfl, rfl⟩ ⟨rfl, rfl⟩
  obtain ⟨a2, rfl, w2⟩ := open_stamp (hval 2 _ v2 rfl rfl) h2 Try.underlying33 cells_st Try.underlying3 cells_int ⟨rfl, rfl⟩ ⟨rfl, rfl⟩
  refine (walk a0 a1 a2 W).mono fun e W' ⟨he, hb⟩ => ?_
  subst he
  exact ⟨_, rfl, law_post hW' rfl rfl rfl Try.underlying4 (by kernel_rfl) (by kernel_rfl) hb⟩

theorem over : Rows.stampOrderRow.holds Try.pinned (OpenSpec.ofChange Rows.stampOrderSpec) :=
  OpenClaim.holds_of_wide 4 Try.f4 rfl rfl rfl rfl rfl rfl rfl ⟨rfl, rfl, rfl, rfl, rfl⟩ rfl rfl rfl rfl rfl (by kernel_rfl) Try.func4 (by kernel_rfl)
    (of_decide_eq_true (by kernel_rfl)) (by unfold Func.isWrapper; rw [if_neg (of_decide_eq_false (by kernel_rfl))]; exact ⟨rfl, rfl⟩)
    (fun os started H enc _ => lifted os started H enc)

theorem proved : Rows.StampOrderSaid := over
#print axioms proved

end Go.Proofs.Ythkgbfeljgdnaaa.StampOrder
