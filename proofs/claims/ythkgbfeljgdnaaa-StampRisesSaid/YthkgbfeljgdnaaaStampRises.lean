/-
  StampRises: for every slice of stamps and two places the law returns true and leaves the old world as it was. No condition.
-/
import Derived.Test.YthkgbfeljgdnaaaRows
import Derived.Test.YthkgbfeljgdnaaaLaw
import Derived.Test.YthkgbfeljgdnaaaKit
import Derived.Test.YthkgbfeljgdnaaaRead
import Derived.Test.YthkgbfeljgdnaaaAlive14
import Derived.Test.YthkgbfeljgdnaaaRises
import Derived.Lib.Hide
namespace Go.Proofs.Ythkgbfeljgdnaaa.StampRises
open Go.ChangeShapes Go.WideShapes Go.ChangeAt Go.RowKit

theorem rises_any {v : Value} {l : List (Int × Int)} {w : World} (h : SliceR w v 2 stCells l) : Calls Try.prog 19 #[v] w fun e w' => e = .returned (.bool (risesB l)) ∧ Below w.heap.size w w' := by
  obtain ⟨a, cap, rfl, hcap, hm, hc⟩ := stamp_cells h
  by_cases hl : l.length ≤ 1
  · exact rises_few a _ cap l w rfl hl
  · obtain ⟨b, off, rfl, hd⟩ := hc (by omega)
    unfold maxLen at hm
    exact rises_some b off cap l w (by omega) hcap hm hd

theorem early (a : Option Addr) (n cap : Nat) (i k : Int) (w : World) (hn : (n : Int) ≤ 9223372036854775807) (h : 1000 < (n : Int) ∨ i < 0 ∨ (n : Int) ≤ k ∨ k ≤ i) :
    Calls Try.prog 5 #[.slice a n cap, .int .i64 i, .int .i64 k] w (LawEnd w) := by
  by_cases h1 : 1000 < (n : Int)
  · go_enter Try.func5, Try.ntmps5
    go_wp2_with (go_at_call 17; refine (alive14 _).mono ?_; rintro e w' ⟨rfl, hb⟩)
    go_ret
    exact ⟨rfl, hb⟩
  · by_cases h2 : i < 0
    · go_enter Try.func5, Try.ntmps5
      go_wp2_with (go_at_call 17; refine (alive14 _).mono ?_; rintro e w' ⟨rfl, hb⟩)
      go_ret
      exact ⟨rfl, hb⟩
    · by_cases h3 : (n : Int) ≤ k
      · go_enter Try.func5, Try.ntmps5
        go_wp2_with (go_at_call 17; refine (alive14 _).mono ?_; rintro e w' ⟨rfl, hb⟩)
        go_ret
        exact ⟨rfl, hb⟩
      · have h4 : k ≤ i := by omega
        clear h
        go_enter Try.func5, Try.ntmps5
        go_wp2_with (go_at_call 17; refine (alive14 _).mono ?_; rintro e w' ⟨rfl, hb⟩)
        go_ret
        exact ⟨rfl, hb⟩

set_option maxHeartbeats 1000000 in
theorem late (b off cap n i k : Nat) (x y : Int × Int) (c : Bool) (w : World) (hn : n ≤ 1000) (hik : i < k) (hk : k < n)
    (hR : ∀ w', Below w.heap.size w w' → Calls Try.prog 19 #[.slice (some ⟨b, off, none⟩) n cap] w' fun e w'' => e = .returned (.bool c) ∧ Below w'.heap.size w' w'')
    (hx0 : w.cell? ⟨b, off + i * 2, none⟩ = some (.int .i64 x.1)) (hx1 : w.cell? ⟨b, off + i * 2 + 1, none⟩ = some (.int .i64 x.2))
    (hy0 : w.cell? ⟨b, off + k * 2, none⟩ = some (.int .i64 y.1)) (hy1 : w.cell? ⟨b, off + k * 2 + 1, none⟩ = some (.int .i64 y.2))
    (hless : c = true → lessP x y = true) :
    Calls Try.prog 5 #[.slice (some ⟨b, off, none⟩) n cap, .int .i64 i, .int .i64 k] w (LawEnd w) := by
  have HR := Lib.hid hR
  have HL := Lib.hid hless
  clear hR hless
  have i0 : (0 : Int) ≤ (i : Int) := by omega
  have i1 : (i : Int) < (n : Int) := by omega
  have k0 : (0 : Int) ≤ (k : Int) := by omega
  have k1 : (k : Int) < (n : Int) := by omega
  cases c
  · go_enter Try.func5, Try.ntmps5
    go_wp2_with fail
    refine (alive14 _).mono ?_
    rintro e w1 ⟨rfl, hb1⟩
    have c00 := keep hb1 hx0
    have c01 := keep hb1 hx1
    have c10 := keep hb1 hy0
    have c11 := keep hb1 hy1
    go_wp2_with fail
    refine wp_region_class (fun w' => Below w.heap.size w w') (by kernel_rfl) (by kernel_rfl) hb1.drew ?_
    repeat
      with_reducible refine wpQuiet_step (fun K hK => ?_)
      first
        | refine quiet_not (by rfl) (hK _ ?_)
        | refine quiet_any (by rfl) ?_
          apply Exists.intro
          refine ⟨fun wq hq => ?_, hK _ ?_⟩
          · have kb := hq
            go_simp
            first
              | done
              | (with_reducible rfl)
              | (go_at_call 19; refine (HR.out _ kb).mono ?_; rintro e wz ⟨rfl, hz⟩; exact ⟨rfl, kb.trans (hz.mono kb.size)⟩)
      clear hK K
      simp only [Act.put, List.setIfInBounds_toArray, List.set_cons_zero, List.set_cons_succ]
    refine wpQuiet_nil ?_
    intro wq hq
    go_wp2_with fail
    go_ret
    exact ⟨rfl, hq⟩
  · have hl := HL.out rfl
    have L : ∀ w, Calls Try.prog 18 #[.agg #[.int .i64 x.1, .int .i64 x.2], .agg #[.int .i64 y.1, .int .i64 y.2]] w fun e w' => e = .returned (.bool true) ∧ Below w.heap.size w w' := fun w => by
      rw [← hl]; exact less_any _ _ _ _ w
    have HLL := Lib.hid L
    clear L hl
    go_enter Try.func5, Try.ntmps5
    go_wp2_with fail
    refine (alive14 _).mono ?_
    rintro e w1 ⟨rfl, hb1⟩
    have c00 := keep hb1 hx0
    have c01 := keep hb1 hx1
    have c10 := keep hb1 hy0
    have c11 := keep hb1 hy1
    go_wp2_with fail
    refine wp_region_class (fun w' => (w'.cell? ⟨b, off + i * 2, none⟩ = some (.int .i64 x.1) ∧ w'.cell? ⟨b, off + i * 2 + 1, none⟩ = some (.int .i64 x.2) ∧ w'.cell? ⟨b, off + k * 2, none⟩ = some (.int .i64 y.1) ∧ w'.cell? ⟨b, off + k * 2 + 1, none⟩ = some (.int .i64 y.2)) ∧ Below w.heap.size w w') (by kernel_rfl) (by kernel_rfl) ⟨⟨by simpa using c00, by simpa using c01, by simpa using c10, by simpa using c11⟩, hb1.drew⟩ ?_
    repeat
      with_reducible refine wpQuiet_step (fun K hK => ?_)
      first
        | refine quiet_not (by rfl) (hK _ ?_)
        | refine quiet_any (by rfl) ?_
          apply Exists.intro
          refine ⟨fun wq hq => ?_, hK _ ?_⟩
          · obtain ⟨⟨q0, q1, q2, q3⟩, kb⟩ := hq
            go_simp
            first
              | done
              | (with_reducible rfl)
              | (first | (go_at_call 19; refine (HR.out _ kb).mono ?_; rintro e wz ⟨rfl, hz⟩; exact ⟨rfl, ⟨keep hz q0, keep hz q1, keep hz q2, keep hz q3⟩, kb.trans (hz.mono kb.size)⟩) | (go_at_call 18; refine (HLL.out _).mono ?_; rintro e wz ⟨rfl, hz⟩; exact ⟨rfl, ⟨keep hz q0, keep hz q1, keep hz q2, keep hz q3⟩, kb.trans (hz.mono kb.size)⟩))
      clear hK K
      simp only [Act.put, List.setIfInBounds_toArray, List.set_cons_zero, List.set_cons_succ]
    refine wpQuiet_nil ?_
    intro wq hq
    have hbq := hq.2
    clear hq
    go_wp2_with fail
    go_ret
    exact ⟨rfl, hbq⟩

theorem less_trans {x y z : Int × Int} (h1 : lessP x y = true) (h2 : lessP y z = true) : lessP x z = true := by
  obtain ⟨a, b⟩ := x
  obtain ⟨c, d⟩ := y
  obtain ⟨e, f⟩ := z
  simp only [lessP, lessB, decide_eq_true_eq] at *
  omega
theorem rises_less (l : List (Int × Int)) (h : risesB l = true) (i : Nat) : ∀ d, i + d + 1 < l.length → lessP (l.getD i (0, 0)) (l.getD (i + d + 1) (0, 0)) = true := by
  have one : ∀ j, j + 1 < l.length → lessP (l.getD j (0, 0)) (l.getD (j + 1) (0, 0)) = true := fun j hj => by
    unfold risesB upTo at h
    rw [List.all_eq_true] at h
    exact h j (List.mem_range.2 (by omega))
  intro d
  induction d with
  | zero => exact one i
  | succ d ih =>
    intro hd
    exact less_trans (ih (by omega)) (one _ (by omega))

theorem walk (v : Value) (l : List (Int × Int)) (i k : Int) (w : World) (h : SliceR w v 2 stCells l) : Calls Try.prog 5 #[v, .int .i64 i, .int .i64 k] w (LawEnd w) := by
  have h0 := h
  obtain ⟨a, cap, rfl, hcap, hm, hc⟩ := stamp_cells h
  unfold maxLen at hm
  by_cases he : 1000 < (l.length : Int) ∨ i < 0 ∨ (l.length : Int) ≤ k ∨ k ≤ i
  · exact early a _ cap i k w (by omega) he
  · obtain ⟨i', rfl⟩ := Int.eq_ofNat_of_zero_le (show 0 ≤ i by omega)
    obtain ⟨k', rfl⟩ := Int.eq_ofNat_of_zero_le (show 0 ≤ k by omega)
    obtain ⟨b, off, rfl, hd⟩ := hc (by omega)
    refine late b off cap _ i' k' _ _ _ w (by omega) (by omega) (by omega) (fun w' hb => rises_any (h0.below (fun _ => rfl) hb)) (hd i' (by omega)).1 (hd i' (by omega)).2 (hd k' (by omega)).1 (hd k' (by omega)).2 (fun hr => ?_)
    obtain ⟨d, rfl⟩ : ∃ d, k' = i' + d + 1 := ⟨k' - i' - 1, by omega⟩
    exact rises_less l hr i' d (by omega)

theorem cells_st : Try.prog.cellsOf 33 = 2 := by kernel_rfl
theorem cells_int : Try.prog.cellsOf 3 = 1 := by kernel_rfl

theorem own : ownKnob Try.prog.godebug = none := by kernel_rfl

set_option maxRecDepth 100000 in
set_option linter.unusedVariables false in
theorem lifted (os : Os) (started : os.Started) (H : Type) (enc : TypeId × Value → H) :
    ReturnsInHanded {} Try.checked os 5 .any (Rows.stampRisesSpec.pre6 enc Try.prog Try.f5 Rows.stampRisesRow.domain false) (Rows.stampRisesSpec.post enc Try.prog Try.f5 false true false false) := by
  refine returnsInHanded_of_change_sized (C := Try.checked) own started (by kernel_rfl) Try.func5
    (ChangeSpec.witness6 (enc := enc) (C := Try.checked) false ⟨#[], #[.slice none 0 0, .int .i64 0, .int .i64 0], []⟩ 8 (by kernel_rfl) (by kernel_rfl) (by kernel_rfl) (by kernel_rfl)) ?_
  intro W base args ds gs before hval0 hW hcnd hsz hholds
  have hval : ∀ (j : Nat) t v, Try.f5.params[j]? = some t → args[j]? = some v → Value.okWide Try.prog W .any base t v := hval0
  have hW' := hW
  obtain ⟨p, q, hA0, hV, _, hfz, _⟩ := hW
  have hA : DataW.TrodAll enc Try.prog W 0 (fun _ => true) true Try.f5.params.toList args.toList ds p := hA0
  rw [Try.params5] at hA hval
  obtain ⟨v0, vs0, d0, ds0, p0, q0, hargs, rfl, rfl, h0, r0⟩ := trodAll_cons hA
  obtain ⟨v1, vs1, d1, ds1, p1, q1, rfl, rfl, rfl, h1, r1⟩ := trodAll_cons r0
  obtain ⟨v2, vs2, d2, ds2, p2, q2, rfl, rfl, rfl, h2, r2⟩ := trodAll_cons r1
  obtain ⟨rfl, rfl, rfl⟩ := trodAll_nil r2
  obtain rfl : args = #[v0, v1, v2] := by cases args; simp_all
  obtain ⟨rfl, _⟩ := trodVars_none hV
  obtain ⟨l0, R0, w0⟩ := open_stamps (hval 0 _ v0 rfl rfl) h0 Try.underlying37 Try.underlying33 cells_st Try.underlying3 cells_int ⟨rfl, rfl⟩ ⟨rfl, rfl⟩
  obtain ⟨a1, rfl, rfl, _, w1⟩ := open_int Try.underlying3 (hval 1 _ v1 rfl rfl) h1
  obtain ⟨a2, rfl, rfl, _, w2⟩ := open_int Try.underlying3 (hval 2 _ v2 rfl rfl) h2
  refine (walk v0 l0 a1 a2 W R0).mono fun e W' ⟨he, hb⟩ => ?_
  subst he
  exact ⟨_, rfl, law_post hW' rfl rfl rfl Try.underlying4 (by kernel_rfl) (by kernel_rfl) hb⟩

theorem over : Rows.stampRisesRow.holds Try.pinned (OpenSpec.ofChange Rows.stampRisesSpec) :=
  OpenClaim.holds_of_wide 5 Try.f5 rfl rfl rfl rfl rfl rfl rfl ⟨rfl, rfl, rfl, rfl, rfl⟩ rfl rfl rfl rfl rfl (by kernel_rfl) Try.func5 (by kernel_rfl)
    (of_decide_eq_true (by kernel_rfl)) (by unfold Func.isWrapper; rw [if_neg (of_decide_eq_false (by kernel_rfl))]; exact ⟨rfl, rfl⟩)
    (fun os started H enc _ => lifted os started H enc)

theorem proved : Rows.StampRisesSaid := over
#print axioms proved

end Go.Proofs.Ythkgbfeljgdnaaa.StampRises
