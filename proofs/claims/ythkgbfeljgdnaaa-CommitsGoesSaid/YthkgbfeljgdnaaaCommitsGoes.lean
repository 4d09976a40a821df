/-
  CommitsGoes: for every two commits, topic, consumer and number the law returns true and leaves the old world as it was. No condition.
-/
import Derived.Test.YthkgbfeljgdnaaaRows
import Derived.Test.YthkgbfeljgdnaaaLaw
import Derived.Test.YthkgbfeljgdnaaaComLaw
import Derived.Test.YthkgbfeljgdnaaaComSame
import Derived.Test.YthkgbfeljgdnaaaRefGreat
import Derived.Test.YthkgbfeljgdnaaaRefMay
import Derived.Test.YthkgbfeljgdnaaaRefNew
import Derived.Test.YthkgbfeljgdnaaaRefTwin
import Derived.Test.YthkgbfeljgdnaaaRefSameC
import Derived.Test.YthkgbfeljgdnaaaSpoil
namespace Go.Proofs.Ythkgbfeljgdnaaa.CommitsGoes
open Go.ChangeShapes Go.WideShapes Go.ChangeAt Go.RowKit

/-- Great, for a value and its reading. -/
theorem great {v : Value} {m : List (List Int)} {w : World} (h : RowsR w v m) (hw : ∀ r ∈ m, r.length ≤ 17592186044416) : Calls Try.prog 30 #[v] w (GreatEnd m w) := great_any h hw

/-- What Set answers: one result for the program and for the document. -/
def SetEnd (c : Int) (l : List (List Int)) (w : World) (e : Ending) (w' : World) : Prop :=
  ∃ a z cap us, e = .returned (.tuple #[.slice a z cap, .int .i64 c]) ∧ OwnU w' w.heap.size (.slice a z cap) us l ∧ Below w.heap.size w w'
theorem ownU_nil (w : World) (base : Nat) : OwnU w base (.slice none 0 0) [] [] :=
  ⟨World.ownsRow_nil _ _ _ _, rfl, fun _ hi => absurd hi (Nat.not_lt_zero _), fun _ _ hi => absurd hi (Nat.not_lt_zero _)⟩
theorem sets (m : List (List Int)) (t k n : Int) : ∃ c l, ∀ (v : Value) (w : World), RowsR w v m →
    Calls Try.prog 25 #[v, .int .i64 t, .int .i64 k, .int .i64 n] w (SetEnd c l w) ∧
    Calls Try.prog 32 #[v, .int .i64 t, .int .i64 k, .int .i64 n] w (SetEnd c l w) := by
  have no : ∀ c, ((askC m t k ≠ 0 ∧ c = askC m t k) ∨ (askC m t k = 0 ∧ ¬ (0 ≤ n ∧ n ≤ 1073741824) ∧ c = 2)) → ∃ c l, ∀ (v : Value) (w : World), RowsR w v m →
      Calls Try.prog 25 #[v, .int .i64 t, .int .i64 k, .int .i64 n] w (SetEnd c l w) ∧
      Calls Try.prog 32 #[v, .int .i64 t, .int .i64 k, .int .i64 n] w (SetEnd c l w) := by
    intro c hc
    refine ⟨c, [], fun v w h => ⟨(set_no t k n h c hc).mono ?_, (refSet_no t k n h c hc).mono ?_⟩⟩
    · rintro e w' ⟨rfl, hb⟩
      exact ⟨none, 0, 0, [], rfl, ownU_nil _ _, hb⟩
    · rintro e w' ⟨rfl, rfl⟩
      exact ⟨none, 0, 0, [], rfl, ownU_nil _ _, Below.refl _ _⟩
  by_cases ha : askC m t k = 0
  · by_cases hn : 0 ≤ n ∧ n ≤ 1073741824
    · obtain ⟨hok, h1, h2, h3, h4⟩ := askC_zero ha
      refine ⟨0, setC m t k n, fun v w h => ⟨(set_yes t k n h hok h1 h2 h3 h4 hn.1 hn.2).mono ?_, (refSet_yes t k n h hok h1 h2 h3 h4 hn.1 hn.2).mono ?_⟩⟩
      all_goals
        rintro e w' ⟨v', rfl, o, b⟩
        obtain ⟨a, z, cap, rfl⟩ := o.reads.shape
        obtain ⟨us, e1, e2, e3, e4⟩ := o
        exact ⟨a, z, cap, us, rfl, ⟨e1, e2, e3, e4⟩, b⟩
    · exact no 2 (Or.inr ⟨ha, hn, rfl⟩)
  · exact no _ (Or.inl ⟨ha, rfl⟩)

theorem OwnU_c {w : World} {base : Nat} {v : Value} {us : List Value} {m : List (List Int)} (h : OwnU w base v us m) : OwnC w base v m := ⟨us, h.1, h.2.1, h.2.2.1, h.2.2.2⟩

theorem refSame {v v' : Value} {m : List (List Int)} {w : World} (h : RowsR w v m) (h' : RowsR w v' m) :
    Calls Try.prog 35 #[v, v'] w fun e w' => e = .returned (.bool true) ∧ Below w.heap.size w w' := by
  have := refSameC_any h h'
  rw [decide_eq_true rfl] at this
  exact this
theorem comSame {v v' : Value} {m : List (List Int)} {w : World} (h : RowsR w v m) (h' : RowsR w v' m) :
    Calls Try.prog 37 #[v, v'] w fun e w' => e = .returned (.bool true) ∧ Below w.heap.size w w' := by
  have := same_any h h'
  rw [decide_eq_true rfl] at this
  exact this

/-- The whole walk once nothing is great. -/
def Rest (w : World) (e : Ending) (w' : World) : Prop := LawEnd w e w'

set_option maxHeartbeats 4000000 in
theorem walk {v o : Value} {m m2 : List (List Int)} (t k n : Int) {w : World} (h : RowsR w v m) (h2 : RowsR w o m2) (hw : ∀ r ∈ m, r.length ≤ 17592186044416) (hw2 : ∀ r ∈ m2, r.length ≤ 17592186044416) :
    Calls Try.prog 11 #[v, o, .int .i64 t, .int .i64 k, .int .i64 n] w (LawEnd w) := by
  have H := Lib.hid h
  have H2 := Lib.hid h2
  have HW := Lib.hid hw
  have HW2 := Lib.hid hw2
  obtain ⟨sc, sl, hset⟩ := sets m t k n
  obtain ⟨gx, hgx⟩ : ∃ x, x = if askC m t k = 0 then getC m t k else 0 := ⟨_, rfl⟩
  obtain ⟨gf, hgf⟩ : ∃ f, f = askC m t k := ⟨_, rfl⟩
  have get1 := fun v w (hr : RowsR w v m) => get_any t k hr
  have get2 := fun v w (hr : RowsR w v m) => refGet_any t k hr
  rw [← hgx, ← hgf] at get1 get2
  obtain ⟨ck, hck⟩ : ∃ c : Int, c = if okC m then (0 : Int) else 8 := ⟨_, rfl⟩
  have chk1 := fun v w (hr : RowsR w v m) => comCheck_any hr
  have chk2 := fun v w (hr : RowsR w v m) => refCheck_any hr
  rw [← hck] at chk1 chk2
  obtain ⟨z, hz⟩ : ∃ z, z = decide (m = m2) := ⟨_, rfl⟩
  have sm1 := fun v v' w (hr : RowsR w v m) (hr' : RowsR w v' m2) => same_any hr hr'
  have sm2 := fun v v' w (hr : RowsR w v m) (hr' : RowsR w v' m2) => refSameC_any hr hr'
  rw [← hz] at sm1 sm2
  have HSET := Lib.hid hset
  have GET1 := Lib.hid get1
  have GET2 := Lib.hid get2
  have CHK1 := Lib.hid chk1
  have CHK2 := Lib.hid chk2
  have SM1 := Lib.hid sm1
  have SM2 := Lib.hid sm2
  obtain ⟨a, na, cap, rfl⟩ := h.shape
  obtain ⟨a', na', cap', rfl⟩ := h2.shape
  have f1 : (sc == sc) = true := by simp
  have f2 : (gx == gx) = true := by simp
  have f3 : (gf == gf) = true := by simp
  have f4 : (ck == ck) = true := by simp
  have f5 : (z == z) = true := by simp
  clear hset get1 get2 chk1 chk2 sm1 sm2 hgx hgf hck hz h h2 hw hw2
  go_enter Try.func11, Try.ntmps11
  go_wp2_with fail
  refine (great H.out HW.out).mono ?_
  rintro e w2 ⟨⟨g, rfl, hg⟩, rfl⟩
  have HG := Lib.hid hg
  clear hg
  cases g
  · go_wp2_with fail
    refine (great H2.out HW2.out).mono ?_
    rintro e w2 ⟨⟨g, rfl, hg⟩, rfl⟩
    clear hg
    cases g
    · go_wp2_with fail
      refine (refTwin_any H.out (HG.out trivial)).mono ?_
      rintro e w3 ⟨v3, rfl, o3, b3⟩
      have HB3 := Lib.hid b3
      have R3 := Lib.hid o3.reads
      obtain ⟨a3, n3, c3, e3⟩ := o3.reads.shape
      subst e3
      clear o3 b3
      -- Set
      go_wp2_with fail
      refine (HSET.out _ _ R3.out).1.mono ?_
      rintro e w4 ⟨a4, n4, c4, us4, rfl, o4, b4⟩
      have O4 := Lib.hid o4
      have B4 := Lib.hid b4
      clear o4 b4
      go_wp2_with fail
      refine (HSET.out _ _ (H.out.below (HB3.out.trans (B4.out.mono HB3.out.size)))).2.mono ?_
      rintro e w5 ⟨a5, n5, c5, us5, rfl, o5, b5⟩
      have O5 := Lib.hid o5
      have B45 := Lib.hid b5
      have B5 := Lib.hid (B4.out.trans (b5.mono B4.out.size))
      clear o5 b5
      -- Get
      go_wp2_with fail
      refine (GET1.out _ _ (R3.out.below B5.out)).mono ?_
      rintro e w6 ⟨rfl, b6⟩
      have B46 := Lib.hid (B45.out.trans (b6.mono B45.out.size))
      have B56 := Lib.hid b6
      have B6 := Lib.hid (B5.out.trans (b6.mono B5.out.size))
      clear b6
      go_wp2_with fail
      refine (GET2.out _ _ (H.out.below (HB3.out.trans (B6.out.mono HB3.out.size)))).mono ?_
      rintro e w7 ⟨rfl, e7⟩
      subst e7
      -- Twin
      go_wp2_with fail
      refine (twin_any (R3.out.below B6.out) (HG.out trivial)).mono ?_
      rintro e w8 ⟨v8, rfl, o8, b8⟩
      have B48 := Lib.hid (B46.out.trans (b8.mono B46.out.size))
      have B58 := Lib.hid (B56.out.trans (b8.mono B56.out.size))
      have B8 := Lib.hid (B6.out.trans (b8.mono B6.out.size))
      have O8 := Lib.hid o8
      have S8 : Hid (w4.heap.size ≤ w6.heap.size ∧ w3.heap.size ≤ w6.heap.size) := ⟨B46.out.size, B6.out.size⟩
      obtain ⟨a8, n8, c8, e8⟩ := o8.reads.shape
      subst e8
      clear o8 b8
      -- one
      go_wp2_with fail
      refine (refSame ((OwnU_c O4.out).reads.below B48.out) ((OwnU_c O5.out).reads.below B58.out)).mono ?_
      rintro e w9 ⟨rfl, b9⟩
      have B49 := Lib.hid (B48.out.trans (b9.mono B48.out.size))
      have B89 := Lib.hid b9
      have B9 := Lib.hid (B8.out.trans (b9.mono B8.out.size))
      clear b9
      go_wp2_with fail
      refine (CHK1.out _ _ (R3.out.below B9.out)).mono ?_
      rintro e wa ⟨rfl, ba⟩
      have B4a := Lib.hid (B49.out.trans (ba.mono B49.out.size))
      have B8a := Lib.hid (B89.out.trans (ba.mono B89.out.size))
      have Ba := Lib.hid (B9.out.trans (ba.mono B9.out.size))
      clear ba
      go_wp2_with fail
      refine (CHK2.out _ _ (H.out.below (HB3.out.trans (Ba.out.mono HB3.out.size)))).mono ?_
      rintro e wb ⟨rfl, eb⟩
      subst eb
      go_wp2_with fail
      refine (refSame (O8.out.reads.below B8a.out) (H.out.below (HB3.out.trans (Ba.out.mono HB3.out.size)))).mono ?_
      rintro e wc ⟨rfl, bc⟩
      have B4c := Lib.hid (B4a.out.trans (bc.mono B4a.out.size))
      have B8c := Lib.hid (B8a.out.trans (bc.mono B8a.out.size))
      have Bc := Lib.hid (Ba.out.trans (bc.mono Ba.out.size))
      clear bc
      -- two
      go_wp2_with fail
      refine (SM1.out _ _ _ (H.out.below (HB3.out.trans (Bc.out.mono HB3.out.size))) (H2.out.below (HB3.out.trans (Bc.out.mono HB3.out.size)))).mono ?_
      rintro e wd ⟨rfl, bd⟩
      have B4d := Lib.hid (B4c.out.trans (bd.mono B4c.out.size))
      have B8d := Lib.hid (B8c.out.trans (bd.mono B8c.out.size))
      have Bd := Lib.hid (Bc.out.trans (bd.mono Bc.out.size))
      clear bd
      go_wp2_with fail
      refine (SM2.out _ _ _ (H.out.below (HB3.out.trans (Bd.out.mono HB3.out.size))) (H2.out.below (HB3.out.trans (Bd.out.mono HB3.out.size)))).mono ?_
      rintro e we ⟨rfl, be⟩
      have B4e := Lib.hid (B4d.out.trans (be.mono B4d.out.size))
      have B8e := Lib.hid (B8d.out.trans (be.mono B8d.out.size))
      have Be := Lib.hid (Bd.out.trans (be.mono Bd.out.size))
      clear be
      go_wp2_with fail
      refine (comSame (R3.out.below Be.out) (H.out.below (HB3.out.trans (Be.out.mono HB3.out.size)))).mono ?_
      rintro e wf ⟨rfl, bf⟩
      have B4f := Lib.hid (B4e.out.trans (bf.mono B4e.out.size))
      have B8f := Lib.hid (B8e.out.trans (bf.mono B8e.out.size))
      have Bf := Lib.hid (Be.out.trans (bf.mono Be.out.size))
      clear bf
      go_wp2_with fail
      refine (new_any _).mono ?_
      rintro e wg ⟨vg, rfl, og, bg⟩
      have B4g := Lib.hid (B4f.out.trans (bg.mono B4f.out.size))
      have B8g := Lib.hid (B8f.out.trans (bg.mono B8f.out.size))
      have Bg := Lib.hid (Bf.out.trans (bg.mono Bf.out.size))
      have OG := Lib.hid og.reads
      obtain ⟨ag, ng, cg, eg⟩ := og.reads.shape
      subst eg
      clear og bg
      go_wp2_with fail
      refine (refNew_any _).mono ?_
      rintro e wh ⟨vh, rfl, oh, bh⟩
      have B4h := Lib.hid (B4g.out.trans (bh.mono B4g.out.size))
      have B8h := Lib.hid (B8g.out.trans (bh.mono B8g.out.size))
      have Bh := Lib.hid (Bg.out.trans (bh.mono Bg.out.size))
      have OG2 := Lib.hid (OG.out.below bh)
      have OH := Lib.hid oh.reads
      obtain ⟨ah, nh, ch, eh⟩ := oh.reads.shape
      subst eh
      clear oh bh
      go_wp2_with fail
      refine (refSame OG2.out OH.out).mono ?_
      rintro e wi ⟨rfl, bi⟩
      have B4i := Lib.hid (B4h.out.trans (bi.mono B4h.out.size))
      have B8i := Lib.hid (B8h.out.trans (bi.mono B8h.out.size))
      have Bi := Lib.hid (Bh.out.trans (bi.mono Bh.out.size))
      clear bi
      -- spoil
      go_wp2_with fail
      refine (spoil_any (O4.out.keep B4i.out)).mono ?_
      rintro e wj ⟨⟨r, rfl⟩, bj, fj⟩
      have Bj := Lib.hid (Bi.out.trans bj)
      have O8j : Hid (OwnC wj w6.heap.size (.slice a8 n8 c8) m) := OwnC_above (O8.out.keep B8i.out) (fun K hK => fj K (O4.out.rows_lt (Nat.le_trans S8.out.1 hK)))
      clear bj fj
      go_wp2_with fail
      obtain ⟨us8, p1, p2, p3, p4⟩ := O8j.out
      have O8u : Hid (OwnU wj w6.heap.size (.slice a8 n8 c8) us8 m) := ⟨p1, p2, p3, p4⟩
      clear p1 p2 p3 p4
      refine (spoil_any O8u.out).mono ?_
      rintro e wk ⟨⟨r', rfl⟩, bk, _⟩
      have Bk := Lib.hid (Bj.out.trans (bk.mono S8.out.2))
      clear bk
      go_wp2_with fail
      refine (refSame (R3.out.below Bk.out) (H.out.below (HB3.out.trans (Bk.out.mono HB3.out.size)))).mono ?_
      rintro e wl ⟨rfl, bl⟩
      have Bl := Lib.hid (HB3.out.trans ((Bk.out.trans (bl.mono Bk.out.size)).mono HB3.out.size))
      clear bl
      go_wp2_with fail
      go_ret
      exact ⟨rfl, Bl.out⟩
    · go_wp2_with fail
      go_ret
      exact ⟨rfl, Below.refl _ _⟩
  · go_wp2_with fail
    go_ret
    exact ⟨rfl, Below.refl _ _⟩

theorem cells_row : Try.prog.cellsOf 65 = 1 := by kernel_rfl
theorem cells_int : Try.prog.cellsOf 3 = 1 := by kernel_rfl
theorem bytes_int : Try.prog.bytesOf 3 = 8 := by kernel_rfl

theorem small {m : List (List Int)} (hw : ∀ r ∈ m, r.length * 8 ≤ reachBytes) : ∀ r ∈ m, r.length ≤ 17592186044416 := fun r hr => by have := hw r hr; unfold reachBytes at this; omega

theorem own : ownKnob Try.prog.godebug = none := by kernel_rfl

set_option maxRecDepth 100000 in
set_option linter.unusedVariables false in
theorem lifted (os : Os) (started : os.Started) (H : Type) (enc : TypeId × Value → H) :
    ReturnsInHanded {} Try.checked os 11 .any (Rows.commitsGoesSpec.pre6 enc Try.prog Try.f11 Rows.commitsGoesRow.domain false) (Rows.commitsGoesSpec.post enc Try.prog Try.f11 false true false false) := by
  refine returnsInHanded_of_change_sized (C := Try.checked) own started (by kernel_rfl) Try.func11
    (ChangeSpec.witness6 (enc := enc) (C := Try.checked) false ⟨#[], #[.slice none 0 0, .slice none 0 0, .int .i64 0, .int .i64 0, .int .i64 0], []⟩ 8 (by kernel_rfl) (by kernel_rfl) (by kernel_rfl) (by kernel_rfl)) ?_
  intro W base args ds gs before hval0 hW hcnd hsz0 hholds
  have hsz : (DataW.weightsEach Try.prog (Try.f11.params.toList ++ Rows.commitsGoesSpec.plain.varTypes Try.prog) (ds ++ gs)).all (· ≤ reachBytes) = true := hsz0
  have hval : ∀ (j : Nat) t v, Try.f11.params[j]? = some t → args[j]? = some v → Value.okWide Try.prog W .any base t v := hval0
  have hW' := hW
  obtain ⟨p, q, hA0, hV, _, hfz, _⟩ := hW
  have hA : DataW.TrodAll enc Try.prog W 0 (fun _ => true) true Try.f11.params.toList args.toList ds p := hA0
  rw [Try.params11] at hA hval hsz
  obtain ⟨v0, vs0, d0, ds0, p0, q0, hargs, rfl, rfl, h0, r0⟩ := trodAll_cons hA
  obtain ⟨v1, vs1, d1, ds1, p1, q1, rfl, rfl, rfl, h1, r1⟩ := trodAll_cons r0
  obtain ⟨v2, vs2, d2, ds2, p2, q2, rfl, rfl, rfl, h2, r2⟩ := trodAll_cons r1
  obtain ⟨v3, vs3, d3, ds3, p3, q3, rfl, rfl, rfl, h3, r3⟩ := trodAll_cons r2
  obtain ⟨v4, vs4, d4, ds4, p4, q4, rfl, rfl, rfl, h4, r4⟩ := trodAll_cons r3
  obtain ⟨rfl, rfl, rfl⟩ := trodAll_nil r4
  obtain rfl : args = #[v0, v1, v2, v3, v4] := by cases args; simp_all
  obtain ⟨rfl, _⟩ := trodVars_none hV
  have hwt : ∀ (j : Nat) (t : TypeId) (d : DataW H), (_ : List TypeId)[j]? = some t → (_ : List (DataW H))[j]? = some d → ∀ n ∈ d.weights Try.prog t, n ≤ reachBytes := fun j t d ht hd n hn => by simpa using List.all_eq_true.1 hsz n (DataW.weights_mem_each ht hd n hn)
  obtain ⟨m0, R0, u0, w0⟩ := open_rows (hval 0 _ v0 rfl rfl) h0 (hwt 0 _ _ rfl rfl) Try.underlying44 Try.underlying65 Try.underlying3 cells_row cells_int
  obtain ⟨m1, R1, u1, w1⟩ := open_rows (hval 1 _ v1 rfl rfl) h1 (hwt 1 _ _ rfl rfl) Try.underlying44 Try.underlying65 Try.underlying3 cells_row cells_int
  obtain ⟨a2, rfl, rfl, _, w2⟩ := open_int Try.underlying3 (hval 2 _ v2 rfl rfl) h2
  obtain ⟨a3, rfl, rfl, _, w3⟩ := open_int Try.underlying3 (hval 3 _ v3 rfl rfl) h3
  obtain ⟨a4, rfl, rfl, _, w4⟩ := open_int Try.underlying3 (hval 4 _ v4 rfl rfl) h4
  refine (walk a2 a3 a4 R0 R1 (small (fun r hr => by have := (w0 r hr).1; rwa [bytes_int] at this)) (small (fun r hr => by have := (w1 r hr).1; rwa [bytes_int] at this))).mono fun e W' ⟨he, hb⟩ => ?_
  subst he
  exact ⟨_, rfl, law_post hW' rfl rfl rfl Try.underlying4 (by kernel_rfl) (by kernel_rfl) hb⟩

theorem over : Rows.commitsGoesRow.holds Try.pinned (OpenSpec.ofChange Rows.commitsGoesSpec) :=
  OpenClaim.holds_of_wide 11 Try.f11 rfl rfl rfl rfl rfl rfl rfl ⟨rfl, rfl, rfl, rfl, rfl⟩ rfl rfl rfl rfl rfl (by kernel_rfl) Try.func11 (by kernel_rfl)
    (of_decide_eq_true (by kernel_rfl)) (by unfold Func.isWrapper; rw [if_neg (of_decide_eq_false (by kernel_rfl))]; exact ⟨rfl, rfl⟩)
    (fun os started H enc _ => lifted os started H enc)

theorem proved : Rows.CommitsGoesSaid := over
#print axioms proved

end Go.Proofs.Ythkgbfeljgdnaaa.CommitsGoes
