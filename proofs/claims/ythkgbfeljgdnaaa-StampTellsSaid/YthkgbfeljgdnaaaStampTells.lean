/-
  StampTells: for every two stamps and every slice of stamps the law returns true and leaves the old world as it was. No condition.
-/
import Derived.Test.YthkgbfeljgdnaaaRows
import Derived.Test.YthkgbfeljgdnaaaLaw
import Derived.Test.YthkgbfeljgdnaaaKit
import Derived.Test.YthkgbfeljgdnaaaStCheck
import Derived.Test.YthkgbfeljgdnaaaRefSame14
import Derived.Deep.DeepMust
namespace Go.Proofs.Ythkgbfeljgdnaaa.StampTells
open Go.ChangeShapes Go.WideShapes Go.ChangeAt Go.RowKit

theorem rises_any {v : Value} {l : List (Int × Int)} {w : World} (h : SliceR w v 2 stCells l) : Calls Try.prog 19 #[v] w fun e w' => e = .returned (.bool (risesB l)) ∧ Below w.heap.size w w' := by
  obtain ⟨a, cap, rfl, hcap, hm, hc⟩ := stamp_cells h
  by_cases hl : l.length ≤ 1
  · exact rises_few a _ cap l w rfl hl
  · obtain ⟨b, off, rfl, hd⟩ := hc (by omega)
    unfold maxLen at hm
    exact rises_some b off cap l w (by omega) hcap hm hd

theorem stKeep {x y : World} {v : Value} {l : List (Int × Int)} (h : SliceR x v 2 stCells l) (hb : Below x.heap.size x y) : SliceR y v 2 stCells l := h.below (fun _ => rfl) hb

theorem early (a b : Int × Int) (ao : Option Addr) (n cap : Nat) (w : World) (h : 10000 < (n : Int)) :
    Calls Try.prog 7 #[.agg #[.int .i64 a.1, .int .i64 a.2], .agg #[.int .i64 b.1, .int .i64 b.2], .slice ao n cap] w (LawEnd w) := by
  go_enter Try.func7, Try.ntmps7
  go_wp2_with fail
  go_ret
  exact ⟨rfl, ((Below.refl _ _).alloc (Nat.le_refl _) _).alloc (by simp) _⟩

theorem info_st : (Try.prog.info? 33).map (fun i => (i.zero, i.size, i.bytes)) = some (some (.agg #[.int .i64 0, .int .i64 0]), 2, 16) := by kernel_rfl

set_option maxHeartbeats 4000000 in
theorem late (a b : Int × Int) (ao : Option Addr) (n cap : Nat) (l : List (Int × Int)) (w : World) (hn : n ≤ 10000) (hnl : n = l.length) (h : SliceR w (.slice ao n cap) 2 stCells l) :
    Calls Try.prog 7 #[.agg #[.int .i64 a.1, .int .i64 a.2], .agg #[.int .i64 b.1, .int .i64 b.2], .slice ao n cap] w (LawEnd w) := by
  obtain ⟨i0, hi, hz0, hz1, hz2⟩ := info_parts info_st
  obtain ⟨c, hc⟩ : ∃ c : Int, c = if okSt a then 0 else 8 := ⟨_, rfl⟩
  obtain ⟨r, hr⟩ : ∃ r, r = lessB a.1 a.2 b.1 b.2 := ⟨_, rfl⟩
  obtain ⟨s, hs⟩ : ∃ s, s = risesB l := ⟨_, rfl⟩
  have K1 : ∀ w, Calls Try.prog 20 #[.agg #[.int .i64 a.1, .int .i64 a.2]] w fun e w' => e = .returned (.int .i64 c) ∧ Below w.heap.size w w' := fun w => by rw [hc]; exact stcheck_any a w
  have K2 : ∀ w, Calls Try.prog 21 #[.agg #[.int .i64 a.1, .int .i64 a.2]] w fun e w' => e = .returned (.int .i64 c) ∧ Below w.heap.size w w' := fun w => by rw [hc]; exact refcheck_any a w
  have K3 : ∀ w, Calls Try.prog 18 #[.agg #[.int .i64 a.1, .int .i64 a.2], .agg #[.int .i64 b.1, .int .i64 b.2]] w fun e w' => e = .returned (.bool r) ∧ Below w.heap.size w w' := fun w => by rw [hr]; exact less_any _ _ _ _ w
  have K4 : ∀ w, Calls Try.prog 22 #[.agg #[.int .i64 a.1, .int .i64 a.2], .agg #[.int .i64 b.1, .int .i64 b.2]] w fun e w' => e = .returned (.bool r) ∧ Below w.heap.size w w' := fun w => by rw [hr]; exact refless_any _ _ _ _ w
  have K5 : ∀ v w, SliceR w v 2 stCells l → Calls Try.prog 19 #[v] w fun e w' => e = .returned (.bool s) ∧ Below w.heap.size w w' := fun v w h => by rw [hs]; exact rises_any h
  have K6 : ∀ v w, SliceR w v 2 stCells l → Calls Try.prog 23 #[v] w fun e w' => e = .returned (.bool s) ∧ Below w.heap.size w w' := fun v w h => by rw [hs]; exact refrises_any h
  have K7 : ∀ v v' w, SliceR w v 2 stCells l → SliceR w v' 2 stCells l → Calls Try.prog 24 #[v, v'] w fun e w' => e = .returned (.bool true) ∧ Below w.heap.size w w' := fun v v' w h h' => same14_any h h'
  have H1 := Lib.hid K1
  have H2 := Lib.hid K2
  have H3 := Lib.hid K3
  have H4 := Lib.hid K4
  have H5 := Lib.hid K5
  have H6 := Lib.hid K6
  have H7 := Lib.hid K7
  have cc : (c == c) = true := by simp
  have rr : (r == r) = true := by simp
  have ss : (s == s) = true := by simp
  have hn' : ¬ (10000 : Int) < (n : Int) := by omega
  have b1 : Below w.heap.size w ((w.alloc (.cells #[.int .i64 a.1, .int .i64 a.2] 33)).alloc (.cells #[.int .i64 b.1, .int .i64 b.2] 33)) := ((Below.refl _ _).alloc (Nat.le_refl _) _).alloc (by simp) _
  have h1 := stKeep h b1
  have hnl' := Lib.hid hnl
  have HB1 := Lib.hid b1
  have HS := Lib.hid h
  have HS1 := Lib.hid h1
  clear hc hr hs K1 K2 K3 K4 K5 K6 K7 hnl b1 h1 h
  go_enter Try.func7, Try.ntmps7
  cases ao with
  | none =>
    have hcap : cap = 0 := by
      obtain ⟨a', cap', e1, _, _, e4, _⟩ := HS.out
      cases e1
      exact e4 rfl
    have hn0 : n = 0 := by
      obtain ⟨a', cap', e1, e2, _, e4, _⟩ := HS.out
      cases e1
      have := hnl'.out
      have := e4 rfl
      omega
    subst hcap hn0
    have hv : SliceR ((w.alloc (.cells #[.int .i64 a.1, .int .i64 a.2] 33)).alloc (.cells #[.int .i64 b.1, .int .i64 b.2] 33)) (.slice none 0 0) 2 stCells l := HS1.out
    go_wp2_with (at_builtin; refine wpList_append_own_none rfl _ _ 37 rfl w.heap.size 33 i0 2 Try.underlying37 hi (.slice none 0 0) 0 [] rfl (World.ownsRow_nil _ _ _ _) rfl ?_)
    have hv' := Lib.hid hv
    clear hv
    refine wp_region_class (fun w' => ((w'.cell? ⟨w.heap.size, 0, none⟩ = some (.int .i64 a.1) ∧ w'.cell? ⟨w.heap.size, 1, none⟩ = some (.int .i64 a.2) ∧ w'.cell? ⟨w.heap.size + 1, 0, none⟩ = some (.int .i64 b.1) ∧ w'.cell? ⟨w.heap.size + 1, 1, none⟩ = some (.int .i64 b.2)) ∧ Hid (SliceR w' (.slice none 0 0) 2 stCells l)) ∧ Below w.heap.size w w') (by kernel_rfl) (by kernel_rfl)
      ⟨⟨⟨by go_simp, by go_simp, by go_simp, by go_simp⟩, stKeep hv'.out (drewBelow _)⟩, HB1.out.drew⟩ ?_
    repeat
      with_reducible refine wpQuiet_step (fun K hK => ?_)
      first
        | refine quiet_not (by rfl) (hK _ ?_)
        | refine quiet_any (by rfl) ?_
          apply Exists.intro
          refine ⟨fun wq hq => ?_, hK _ ?_⟩
          · obtain ⟨⟨⟨k0, k1, k2, k3⟩, ko⟩, kb⟩ := hq
            go_simp
            first
              | done
              | (with_reducible rfl)
              | (first | (go_at_call 20; refine (H1.out _).mono ?_; rintro e wz ⟨rfl, hz⟩; exact ⟨rfl, ⟨⟨keep hz k0, keep hz k1, keep hz k2, keep hz k3⟩, stKeep ko.out hz⟩, kb.trans (hz.mono kb.size)⟩) | (go_at_call 21; refine (H2.out _).mono ?_; rintro e wz ⟨rfl, hz⟩; exact ⟨rfl, ⟨⟨keep hz k0, keep hz k1, keep hz k2, keep hz k3⟩, stKeep ko.out hz⟩, kb.trans (hz.mono kb.size)⟩) | (go_at_call 18; refine (H3.out _).mono ?_; rintro e wz ⟨rfl, hz⟩; exact ⟨rfl, ⟨⟨keep hz k0, keep hz k1, keep hz k2, keep hz k3⟩, stKeep ko.out hz⟩, kb.trans (hz.mono kb.size)⟩) | (go_at_call 22; refine (H4.out _).mono ?_; rintro e wz ⟨rfl, hz⟩; exact ⟨rfl, ⟨⟨keep hz k0, keep hz k1, keep hz k2, keep hz k3⟩, stKeep ko.out hz⟩, kb.trans (hz.mono kb.size)⟩) | (go_at_call 19; refine (H5.out _ _ ko.out).mono ?_; rintro e wz ⟨rfl, hz⟩; exact ⟨rfl, ⟨⟨keep hz k0, keep hz k1, keep hz k2, keep hz k3⟩, stKeep ko.out hz⟩, kb.trans (hz.mono kb.size)⟩) | (go_at_call 23; refine (H6.out _ _ ko.out).mono ?_; rintro e wz ⟨rfl, hz⟩; exact ⟨rfl, ⟨⟨keep hz k0, keep hz k1, keep hz k2, keep hz k3⟩, stKeep ko.out hz⟩, kb.trans (hz.mono kb.size)⟩) | (go_at_call 24; refine (H7.out _ _ _ ko.out ko.out).mono ?_; rintro e wz ⟨rfl, hz⟩; exact ⟨rfl, ⟨⟨keep hz k0, keep hz k1, keep hz k2, keep hz k3⟩, stKeep ko.out hz⟩, kb.trans (hz.mono kb.size)⟩))
      clear hK K
      simp only [Act.put, List.setIfInBounds_toArray, List.set_cons_zero, List.set_cons_succ]
    refine wpQuiet_nil ?_
    intro wq hq
    have hbq := hq.2
    clear hq
    go_wp2_with fail
    go_ret
    exact ⟨rfl, hbq⟩
  | some ad =>
    have hfl := HS1.out
    have hspot : ad = ⟨ad.block, ad.off, none⟩ ∨ l.length = 0 := by
      rcases Nat.eq_zero_or_pos l.length with h0 | h0
      · exact Or.inr h0
      · obtain ⟨a', cap', e1, _, _, _, e5⟩ := hfl
        cases e1
        obtain ⟨b', off', e6, _⟩ := e5 h0
        cases e6
        exact Or.inl rfl
    have hnews : ∀ j u, (l.flatMap stCells)[j]? = some u → ((w.alloc (.cells #[.int .i64 a.1, .int .i64 a.2] 33)).alloc (.cells #[.int .i64 b.1, .int .i64 b.2] 33)).cell? (ad.add j) = some u := by
      intro j u hu
      rcases hspot with h0 | h0
      · rw [h0]
        rw [h0] at hfl
        exact hfl.flat (fun _ => rfl) (by omega) j u hu
      · have : l = [] := List.length_eq_zero_iff.1 h0
        subst this
        simp at hu
    have hlen : (l.flatMap stCells).length = n * 2 := by rw [hnl'.out]; exact flat_length (cells := stCells) (k := 2) (fun _ => rfl) l
    have hone : ∀ u ∈ l.flatMap stCells, u.oneCell' = true := by
      intro u hu
      obtain ⟨y, _, hy⟩ := List.mem_flatMap.1 hu
      simp only [stCells, List.mem_cons, List.not_mem_nil, or_false] at hy
      rcases hy with rfl | rfl <;> rfl
    have HNW := Lib.hid hnews
    have HLN := Lib.hid hlen
    have HON := Lib.hid hone
    clear hfl hspot hnews hlen hone
    go_wp2_with (at_builtin; go_must (refine wpList_append_own _ rfl _ _ 37 rfl w.heap.size 33 i0 (.agg #[.int .i64 0, .int .i64 0]) 2 16 Try.underlying37 hi hz0 hz1 hz2 rfl (by decide) (.slice none 0 0) 0 [] rfl (World.ownsRow_nil _ _ _ _) ad n cap (l.flatMap stCells) rfl HLN.out HNW.out HON.out (by unfold maxLen; omega) (by omega) (by simp; omega) ?_))
    intro v' w1 hown hgrow _
    have hown' : w1.ownsRow w.heap.size 33 2 v' l.length (l.flatMap stCells) := by
      rw [← hnl'.out]
      simpa using hown
    have hbg := belowGrown hgrow
    have hv := sliceR_of_owns (cells := stCells) (fun _ => rfl) hown'
    have hv' := Lib.hid hv
    have hw' := Lib.hid (stKeep HS1.out hbg)
    have hb2 := HB1.out.trans (hbg.mono (by simp; omega))
    have c0 := keep hbg (a := ⟨w.heap.size, 0, none⟩) (v := .int .i64 a.1) (by go_simp)
    have c1 := keep hbg (a := ⟨w.heap.size, 1, none⟩) (v := .int .i64 a.2) (by go_simp)
    have c2 := keep hbg (a := ⟨w.heap.size + 1, 0, none⟩) (v := .int .i64 b.1) (by go_simp)
    have c3 := keep hbg (a := ⟨w.heap.size + 1, 1, none⟩) (v := .int .i64 b.2) (by go_simp)
    have HB2 := Lib.hid hb2
    clear hown hgrow hown' hbg hv hb2
    go_wp2_with fail
    refine wp_region_class (fun w' => (((w'.cell? ⟨w.heap.size, 0, none⟩ = some (.int .i64 a.1) ∧ w'.cell? ⟨w.heap.size, 1, none⟩ = some (.int .i64 a.2) ∧ w'.cell? ⟨w.heap.size + 1, 0, none⟩ = some (.int .i64 b.1) ∧ w'.cell? ⟨w.heap.size + 1, 1, none⟩ = some (.int .i64 b.2)) ∧ Hid (SliceR w' v' 2 stCells l)) ∧ Hid (SliceR w' (.slice (some ad) n cap) 2 stCells l)) ∧ Below w.heap.size w w') (by kernel_rfl) (by kernel_rfl)
      ⟨⟨⟨⟨by simpa using c0, by simpa using c1, by simpa using c2, by simpa using c3⟩, stKeep hv'.out (drewBelow _)⟩, stKeep hw'.out (drewBelow _)⟩, HB2.out.drew⟩ ?_
    repeat
      with_reducible refine wpQuiet_step (fun K hK => ?_)
      first
        | refine quiet_not (by rfl) (hK _ ?_)
        | refine quiet_any (by rfl) ?_
          apply Exists.intro
          refine ⟨fun wq hq => ?_, hK _ ?_⟩
          · obtain ⟨⟨⟨⟨k0, k1, k2, k3⟩, ko⟩, kl⟩, kb⟩ := hq
            go_simp
            first
              | done
              | (with_reducible rfl)
              | (first | (go_at_call 20; refine (H1.out _).mono ?_; rintro e wz ⟨rfl, hz⟩; exact ⟨rfl, ⟨⟨⟨keep hz k0, keep hz k1, keep hz k2, keep hz k3⟩, stKeep ko.out hz⟩, stKeep kl.out hz⟩, kb.trans (hz.mono kb.size)⟩) | (go_at_call 21; refine (H2.out _).mono ?_; rintro e wz ⟨rfl, hz⟩; exact ⟨rfl, ⟨⟨⟨keep hz k0, keep hz k1, keep hz k2, keep hz k3⟩, stKeep ko.out hz⟩, stKeep kl.out hz⟩, kb.trans (hz.mono kb.size)⟩) | (go_at_call 18; refine (H3.out _).mono ?_; rintro e wz ⟨rfl, hz⟩; exact ⟨rfl, ⟨⟨⟨keep hz k0, keep hz k1, keep hz k2, keep hz k3⟩, stKeep ko.out hz⟩, stKeep kl.out hz⟩, kb.trans (hz.mono kb.size)⟩) | (go_at_call 22; refine (H4.out _).mono ?_; rintro e wz ⟨rfl, hz⟩; exact ⟨rfl, ⟨⟨⟨keep hz k0, keep hz k1, keep hz k2, keep hz k3⟩, stKeep ko.out hz⟩, stKeep kl.out hz⟩, kb.trans (hz.mono kb.size)⟩) | (go_at_call 19; refine (H5.out _ _ ko.out).mono ?_; rintro e wz ⟨rfl, hz⟩; exact ⟨rfl, ⟨⟨⟨keep hz k0, keep hz k1, keep hz k2, keep hz k3⟩, stKeep ko.out hz⟩, stKeep kl.out hz⟩, kb.trans (hz.mono kb.size)⟩) | (go_at_call 23; refine (H6.out _ _ kl.out).mono ?_; rintro e wz ⟨rfl, hz⟩; exact ⟨rfl, ⟨⟨⟨keep hz k0, keep hz k1, keep hz k2, keep hz k3⟩, stKeep ko.out hz⟩, stKeep kl.out hz⟩, kb.trans (hz.mono kb.size)⟩) | (go_at_call 24; refine (H7.out _ _ _ ko.out kl.out).mono ?_; rintro e wz ⟨rfl, hz⟩; exact ⟨rfl, ⟨⟨⟨keep hz k0, keep hz k1, keep hz k2, keep hz k3⟩, stKeep ko.out hz⟩, stKeep kl.out hz⟩, kb.trans (hz.mono kb.size)⟩))
      clear hK K
      simp only [Act.put, List.setIfInBounds_toArray, List.set_cons_zero, List.set_cons_succ]
    refine wpQuiet_nil ?_
    intro wq hq
    have hbq := hq.2
    clear hq
    go_wp2_with fail
    go_ret
    exact ⟨rfl, hbq⟩

theorem walk (a b : Int × Int) (v : Value) (l : List (Int × Int)) (w : World) (h : SliceR w v 2 stCells l) : Calls Try.prog 7 #[stVal a, stVal b, v] w (LawEnd w) := by
  have h0 := h
  obtain ⟨ao, cap, rfl, hcap, hm, hc⟩ := stamp_cells h
  by_cases he : 10000 < l.length
  · exact early a b ao _ cap w (by omega)
  · exact late a b ao _ cap l w (by omega) rfl h0

theorem cells_st : Try.prog.cellsOf 33 = 2 := by kernel_rfl
theorem cells_int : Try.prog.cellsOf 3 = 1 := by kernel_rfl

theorem own : ownKnob Try.prog.godebug = none := by kernel_rfl

set_option maxRecDepth 100000 in
set_option linter.unusedVariables false in
theorem lifted (os : Os) (started : os.Started) (H : Type) (enc : TypeId × Value → H) :
    ReturnsInHanded {} Try.checked os 7 .any (Rows.stampTellsSpec.pre6 enc Try.prog Try.f7 Rows.stampTellsRow.domain false) (Rows.stampTellsSpec.post enc Try.prog Try.f7 false true false false) := by
  refine returnsInHanded_of_change_sized (C := Try.checked) own started (by kernel_rfl) Try.func7
    (ChangeSpec.witness6 (enc := enc) (C := Try.checked) false ⟨#[], #[.agg #[.int .i64 0, .int .i64 0], .agg #[.int .i64 0, .int .i64 0], .slice none 0 0], []⟩ 8 (by kernel_rfl) (by kernel_rfl) (by kernel_rfl) (by kernel_rfl)) ?_
  intro W base args ds gs before hval0 hW hcnd hsz hholds
  have hval : ∀ (j : Nat) t v, Try.f7.params[j]? = some t → args[j]? = some v → Value.okWide Try.prog W .any base t v := hval0
  have hW' := hW
  obtain ⟨p, q, hA0, hV, _, hfz, _⟩ := hW
  have hA : DataW.TrodAll enc Try.prog W 0 (fun _ => true) true Try.f7.params.toList args.toList ds p := hA0
  rw [Try.params7] at hA hval
  obtain ⟨v0, vs0, d0, ds0, p0, q0, hargs, rfl, rfl, h0, r0⟩ := trodAll_cons hA
  obtain ⟨v1, vs1, d1, ds1, p1, q1, rfl, rfl, rfl, h1, r1⟩ := trodAll_cons r0
  obtain ⟨v2, vs2, d2, ds2, p2, q2, rfl, rfl, rfl, h2, r2⟩ := trodAll_cons r1
  obtain ⟨rfl, rfl, rfl⟩ := trodAll_nil r2
  obtain rfl : args = #[v0, v1, v2] := by cases args; simp_all
  obtain ⟨rfl, _⟩ := trodVars_none hV
  obtain ⟨a0, rfl, w0⟩ := open_stamp (hval 0 _ v0 rfl rfl) h0 Try.underlying33 cells_st Try.underlying3 cells_int ⟨rfl, rfl⟩ ⟨rfl, rfl⟩
  obtain ⟨a1, rfl, w1⟩ := open_stamp (hval 1 _ v1 rfl rfl) h1 Try.underlying33 cells_st Try.underlying3 cells_int ⟨rfl, rfl⟩ ⟨rfl, rfl⟩
  obtain ⟨l2, R2, w2⟩ := open_stamps (hval 2 _ v2 rfl rfl) h2 Try.underlying37 Try.underlying33 cells_st Try.underlying3 cells_int ⟨rfl, rfl⟩ ⟨rfl, rfl⟩
  refine (walk a0 a1 v2 l2 W R2).mono fun e W' ⟨he, hb⟩ => ?_
  subst he
  exact ⟨_, rfl, law_post hW' rfl rfl rfl Try.underlying4 (by kernel_rfl) (by kernel_rfl) hb⟩

theorem over : Rows.stampTellsRow.holds Try.pinned (OpenSpec.ofChange Rows.stampTellsSpec) :=
  OpenClaim.holds_of_wide 7 Try.f7 rfl rfl rfl rfl rfl rfl rfl ⟨rfl, rfl, rfl, rfl, rfl⟩ rfl rfl rfl rfl rfl (by kernel_rfl) Try.func7 (by kernel_rfl)
    (of_decide_eq_true (by kernel_rfl)) (by unfold Func.isWrapper; rw [if_neg (of_decide_eq_false (by kernel_rfl))]; exact ⟨rfl, rfl⟩)
    (fun os started H enc _ => lifted os started H enc)

theorem proved : Rows.StampTellsSaid := over
#print axioms proved

end Go.Proofs.Ythkgbfeljgdnaaa.StampTells
