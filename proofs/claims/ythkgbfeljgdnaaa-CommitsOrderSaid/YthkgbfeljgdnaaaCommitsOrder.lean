/-
  CommitsOrder: for every commits and two numbers the law returns true and leaves the old world as it was. No condition.
-/
import Derived.Test.YthkgbfeljgdnaaaRows
import Derived.Test.YthkgbfeljgdnaaaLaw
import Derived.Test.YthkgbfeljgdnaaaComLaw
import Derived.Test.YthkgbfeljgdnaaaComSame
import Derived.Test.YthkgbfeljgdnaaaRefGreat
namespace Go.Proofs.Ythkgbfeljgdnaaa.CommitsOrder
open Go.ChangeShapes Go.WideShapes Go.ChangeAt Go.RowKit

/-- Great, for a value and its reading. -/
theorem great {v : Value} {m : List (List Int)} {w : World} (h : RowsR w v m) (hw : ∀ r ∈ m, r.length ≤ 17592186044416) : Calls Try.prog 30 #[v] w (GreatEnd m w) := great_any h hw

/-- Two commits that answer alike everywhere are one. -/
theorem ext {m m' : List (List Int)} (h : okC m = true) (h' : okC m' = true) (hg : ∀ t k : Nat, t < 4 → k < 8 → getC m t k = getC m' t k) : m = m' := by
  obtain ⟨hl, hr⟩ := okC_spec h
  obtain ⟨hl', hr'⟩ := okC_spec h'
  refine list_eq_of [] (by omega) fun t ht => ?_
  have h8 := (hr _ (row_mem (t := t) (by omega))).1
  have h8' := (hr' _ (row_mem (t := t) (by omega))).1
  refine list_eq_of 0 (by omega) fun k hk => ?_
  have := hg t k (by omega) (by omega)
  simpa [getC] using this

theorem setC_comm {m : List (List Int)} (hok : okC m = true) {t k n o u q : Int} (h1 : 0 ≤ t) (h2 : t < 4) (h3 : 0 ≤ k) (h4 : k < 8) (h5 : 0 ≤ n) (h6 : n ≤ 1073741824)
    (g1 : 0 ≤ o) (g2 : o < 4) (g3 : 0 ≤ u) (g4 : u < 8) (g5 : 0 ≤ q) (g6 : q ≤ 1073741824) : setC (setC m t k n) o u q = setC (setC m o u q) t k n := by
  have k1 := okC_set hok h1 h2 h3 h4 h5 h6
  have k2 := okC_set hok g1 g2 g3 g4 g5 g6
  refine ext (okC_set k1 g1 g2 g3 g4 g5 g6) (okC_set k2 h1 h2 h3 h4 h5 h6) fun a b ha hb => ?_
  have a0 : (0 : Int) ≤ (a : Int) := by omega
  have b0 : (0 : Int) ≤ (b : Int) := by omega
  rw [getC_set k1 g1 g2 g3 g4 a0 b0, getC_set k2 h1 h2 h3 h4 a0 b0, getC_set hok h1 h2 h3 h4 a0 b0, getC_set hok g1 g2 g3 g4 a0 b0, getC_set hok h1 h2 h3 h4 g1 g3, getC_set hok g1 g2 g3 g4 h1 h3]
  by_cases x1 : (a : Int) = o ∧ (b : Int) = u
  · by_cases x2 : (a : Int) = t ∧ (b : Int) = k
    · have y1 : o = t ∧ u = k := ⟨by omega, by omega⟩
      obtain ⟨rfl, rfl⟩ := y1
      simp only [x1, and_self, if_true]
      omega
    · have y1 : ¬ (o = t ∧ u = k) := by omega
      rw [if_pos x1, if_neg y1, if_neg x2, if_pos x1]
  · by_cases x2 : (a : Int) = t ∧ (b : Int) = k
    · have y1 : ¬ (t = o ∧ k = u) := by omega
      rw [if_neg x1, if_pos x2, if_pos x2, if_neg y1]
    · rw [if_neg x1, if_neg x2, if_neg x2, if_neg x1]

/-- A set number: where it goes, what it needs. -/
def Goes (m : List (List Int)) (t k n : Int) : Prop := okC m = true ∧ (0 ≤ t ∧ t < 4) ∧ (0 ≤ k ∧ k < 8) ∧ 0 ≤ n ∧ n ≤ 1073741824
def SetAny (m : List (List Int)) (t k n : Int) (w : World) (e : Ending) (w' : World) : Prop :=
  ∃ a z cap c, e = .returned (.tuple #[.slice a z cap, .int .i64 c]) ∧ ((c = 0 ∧ Goes m t k n ∧ RowsR w' (.slice a z cap) (setC m t k n)) ∨ c ≠ 0) ∧ Below w.heap.size w w'
theorem set_any {v : Value} {m : List (List Int)} (t k n : Int) {w : World} (h : RowsR w v m) :
    Calls Try.prog 25 #[v, .int .i64 t, .int .i64 k, .int .i64 n] w (SetAny m t k n w) := by
  by_cases ha : askC m t k = 0
  · by_cases hn : 0 ≤ n ∧ n ≤ 1073741824
    · obtain ⟨hok, h1, h2, h3, h4⟩ := askC_zero ha
      refine (set_yes t k n h hok h1 h2 h3 h4 hn.1 hn.2).mono ?_
      rintro e w1 ⟨v1, rfl, o1, b1⟩
      have r1 := o1.reads
      obtain ⟨a, z, cap, rfl⟩ := r1.shape
      exact ⟨a, z, cap, 0, rfl, Or.inl ⟨rfl, ⟨hok, ⟨h1, h2⟩, ⟨h3, h4⟩, hn⟩, r1⟩, b1⟩
    · refine (set_no t k n h 2 (Or.inr ⟨ha, hn, rfl⟩)).mono ?_
      rintro e w1 ⟨rfl, b1⟩
      exact ⟨none, 0, 0, 2, rfl, Or.inr (by decide), b1⟩
  · refine (set_no t k n h _ (Or.inl ⟨ha, rfl⟩)).mono ?_
    rintro e w1 ⟨rfl, b1⟩
    exact ⟨none, 0, 0, _, rfl, Or.inr ha, b1⟩
theorem set_go {v : Value} {m : List (List Int)} (t k n : Int) {w : World} (h : RowsR w v m) (g : Goes m t k n) :
    Calls Try.prog 25 #[v, .int .i64 t, .int .i64 k, .int .i64 n] w (SetYes m t k n w) := set_yes t k n h g.1 g.2.1.1 g.2.1.2 g.2.2.1.1 g.2.2.1.2 g.2.2.2.1 g.2.2.2.2
theorem goes_set {m : List (List Int)} {t k n o u q : Int} (g : Goes m t k n) (g' : Goes m o u q) : Goes (setC m t k n) o u q :=
  ⟨okC_set g.1 g.2.1.1 g.2.1.2 g.2.2.1.1 g.2.2.1.2 g.2.2.2.1 g.2.2.2.2, g'.2⟩
theorem goes_comm {m : List (List Int)} {t k n o u q : Int} (g : Goes m t k n) (g' : Goes m o u q) : setC (setC m t k n) o u q = setC (setC m o u q) t k n :=
  setC_comm g.1 g.2.1.1 g.2.1.2 g.2.2.1.1 g.2.2.1.2 g.2.2.2.1 g.2.2.2.2 g'.2.1.1 g'.2.1.2 g'.2.2.1.1 g'.2.2.1.2 g'.2.2.2.1 g'.2.2.2.2

theorem same {v v' : Value} {m : List (List Int)} {m' : List (List Int)} {w : World} (h : RowsR w v m) (h' : RowsR w v' m') (e : m = m') :
    Calls Try.prog 37 #[v, v'] w fun e w' => e = .returned (.bool true) ∧ Below w.heap.size w w' := by
  have := same_any h h'
  rw [decide_eq_true e] at this
  exact this

set_option maxHeartbeats 1000000 in
theorem walk {v : Value} {m : List (List Int)} (t k n o u q : Int) {w : World} (h : RowsR w v m) (hw : ∀ r ∈ m, r.length * 8 ≤ reachBytes) :
    Calls Try.prog 12 #[v, .int .i64 t, .int .i64 k, .int .i64 n, .int .i64 o, .int .i64 u, .int .i64 q] w (LawEnd w) := by
  have hw' : ∀ r ∈ m, r.length ≤ 17592186044416 := fun r hr => by have := hw r hr; unfold reachBytes at this; omega
  have H0 := Lib.hid h
  have HW := Lib.hid hw'
  obtain ⟨a, na, cap, rfl⟩ := h.shape
  clear h hw hw'
  go_enter Try.func12, Try.ntmps12
  go_wp2_with fail
  refine (alive20 _).mono ?_
  rintro e w1 ⟨rfl, b1⟩
  go_wp2_with fail
  refine (great (H0.out.below b1) HW.out).mono ?_
  rintro e w2 ⟨⟨g, rfl, hg⟩, rfl⟩
  clear hg
  cases g
  · go_wp2_with fail
    refine (set_any t k n (H0.out.below b1)).mono ?_
    rintro e w3 ⟨a3, z3, c3, k3, rfl, p3, b3⟩
    have P3 := Lib.hid p3
    clear p3
    have b3' := b1.trans (b3.mono b1.size)
    go_wp2_with fail
    refine (set_any o u q (H0.out.below b3')).mono ?_
    rintro e w4 ⟨a4, z4, c4, k4, rfl, p4, b4⟩
    have P4 := Lib.hid p4
    clear p4
    have b4' := b3'.trans (b4.mono b3'.size)
    rcases P3.out with ⟨rfl, g3, r3⟩ | hne
    · rcases P4.out with ⟨rfl, g4, r4⟩ | hne
      · have G3 := Lib.hid g3
        have G4 := Lib.hid g4
        have R3 := Lib.hid (r3.below b4)
        have R4 := Lib.hid r4
        clear g3 g4 r3 r4 P3 P4
        go_wp2_with fail
        refine (set_go o u q R3.out (goes_set G3.out G4.out)).mono ?_
        rintro e w5 ⟨v5, rfl, o5, b5⟩
        have R5 := Lib.hid o5.reads
        obtain ⟨a5, z5, c5, e5⟩ := o5.reads.shape
        subst e5
        clear o5
        have b5' := b4'.trans (b5.mono b4'.size)
        have R4' := Lib.hid (R4.out.below b5)
        go_wp2_with fail
        refine (set_go t k n R4'.out (goes_set G4.out G3.out)).mono ?_
        rintro e w6 ⟨v6, rfl, o6, b6⟩
        have R6 := Lib.hid o6.reads
        obtain ⟨a6, z6, c6, e6⟩ := o6.reads.shape
        subst e6
        clear o6
        have b6' := b5'.trans (b6.mono b5'.size)
        go_wp2_with fail
        refine (same (R5.out.below b6) R6.out (goes_comm G3.out G4.out)).mono ?_
        rintro e w7 ⟨rfl, b7⟩
        have b7' := b6'.trans (b7.mono b6'.size)
        go_wp2_with fail
        go_ret
        exact ⟨rfl, b7'⟩
      · have d1 : (k4 != 0) = true := by simpa using hne
        clear hne P3 P4 g3 r3
        go_wp2_with fail
        go_ret
        exact ⟨rfl, b4'⟩
    · have d1 : (k3 != 0) = true := by simpa using hne
      clear hne P3 P4
      go_wp2_with fail
      go_ret
      exact ⟨rfl, b4'⟩
  · go_wp2_with fail
    go_ret
    exact ⟨rfl, b1⟩

theorem cells_row : Try.prog.cellsOf 65 = 1 := by kernel_rfl
theorem cells_int : Try.prog.cellsOf 3 = 1 := by kernel_rfl
theorem bytes_int : Try.prog.bytesOf 3 = 8 := by kernel_rfl

theorem own : ownKnob Try.prog.godebug = none := by kernel_rfl

set_option maxRecDepth 100000 in
set_option linter.unusedVariables false in
theorem lifted (os : Os) (started : os.Started) (H : Type) (enc : TypeId × Value → H) :
    ReturnsInHanded {} Try.checked os 12 .any (Rows.commitsOrderSpec.pre6 enc Try.prog Try.f12 Rows.commitsOrderRow.domain false) (Rows.commitsOrderSpec.post enc Try.prog Try.f12 false true false false) := by
  refine returnsInHanded_of_change_sized (C := Try.checked) own started (by kernel_rfl) Try.func12
    (ChangeSpec.witness6 (enc := enc) (C := Try.checked) false ⟨#[], #[.slice none 0 0, .int .i64 0, .int .i64 0, .int .i64 0, .int .i64 0, .int .i64 0, .int .i64 0], []⟩ 8 (by kernel_rfl) (by kernel_rfl) (by kernel_rfl) (by kernel_rfl)) ?_
  intro W base args ds gs before hval0 hW hcnd hsz0 hholds
  have hsz : (DataW.weightsEach Try.prog (Try.f12.params.toList ++ Rows.commitsOrderSpec.plain.varTypes Try.prog) (ds ++ gs)).all (· ≤ reachBytes) = true := hsz0
  have hval : ∀ (j : Nat) t v, Try.f12.params[j]? = some t → args[j]? = some v → Value.okWide Try.prog W .any base t v := hval0
  have hW' := hW
  obtain ⟨p, q, hA0, hV, _, hfz, _⟩ := hW
  have hA : DataW.TrodAll enc Try.prog W 0 (fun _ => true) true Try.f12.params.toList args.toList ds p := hA0
  rw [Try.params12] at hA hval hsz
  obtain ⟨v0, vs0, d0, ds0, p0, q0, hargs, rfl, rfl, h0, r0⟩ := trodAll_cons hA
  obtain ⟨v1, vs1, d1, ds1, p1, q1, rfl, rfl, rfl, h1, r1⟩ := trodAll_cons r0
  obtain ⟨v2, vs2, d2, ds2, p2, q2, rfl, rfl, rfl, h2, r2⟩ := trodAll_cons r1
  obtain ⟨v3, vs3, d3, ds3, p3, q3, rfl, rfl, rfl, h3, r3⟩ := trodAll_cons r2
  obtain ⟨v4, vs4, d4, ds4, p4, q4, rfl, rfl, rfl, h4, r4⟩ := trodAll_cons r3
  obtain ⟨v5, vs5, d5, ds5, p5, q5, rfl, rfl, rfl, h5, r5⟩ := trodAll_cons r4
  obtain ⟨v6, vs6, d6, ds6, p6, q6, rfl, rfl, rfl, h6, r6⟩ := trodAll_cons r5
  obtain ⟨rfl, rfl, rfl⟩ := trodAll_nil r6
  obtain rfl : args = #[v0, v1, v2, v3, v4, v5, v6] := by cases args; simp_all
  obtain ⟨rfl, _⟩ := trodVars_none hV
  have hwt : ∀ (j : Nat) (t : TypeId) (d : DataW H), (_ : List TypeId)[j]? = some t → (_ : List (DataW H))[j]? = some d → ∀ n ∈ d.weights Try.prog t, n ≤ reachBytes := fun j t d ht hd n hn => by simpa using List.all_eq_true.1 hsz n (DataW.weights_mem_each ht hd n hn)
  obtain ⟨m0, R0, u0, w0⟩ := open_rows (hval 0 _ v0 rfl rfl) h0 (hwt 0 _ _ rfl rfl) Try.underlying44 Try.underlying65 Try.underlying3 cells_row cells_int
  obtain ⟨a1, rfl, rfl, _, w1⟩ := open_int Try.underlying3 (hval 1 _ v1 rfl rfl) h1
  obtain ⟨a2, rfl, rfl, _, w2⟩ := open_int Try.underlying3 (hval 2 _ v2 rfl rfl) h2
  obtain ⟨a3, rfl, rfl, _, w3⟩ := open_int Try.underlying3 (hval 3 _ v3 rfl rfl) h3
  obtain ⟨a4, rfl, rfl, _, w4⟩ := open_int Try.underlying3 (hval 4 _ v4 rfl rfl) h4
  obtain ⟨a5, rfl, rfl, _, w5⟩ := open_int Try.underlying3 (hval 5 _ v5 rfl rfl) h5
  obtain ⟨a6, rfl, rfl, _, w6⟩ := open_int Try.underlying3 (hval 6 _ v6 rfl rfl) h6
  refine (walk a1 a2 a3 a4 a5 a6 R0 (fun r hr => by have := (w0 r hr).1; rwa [bytes_int] at this)).mono fun e W' ⟨he, hb⟩ => ?_
  subst he
  exact ⟨_, rfl, law_post hW' rfl rfl rfl Try.underlying4 (by kernel_rfl) (by kernel_rfl) hb⟩

theorem over : Rows.commitsOrderRow.holds Try.pinned (OpenSpec.ofChange Rows.commitsOrderSpec) :=
  OpenClaim.holds_of_wide 12 Try.f12 rfl rfl rfl rfl rfl rfl rfl ⟨rfl, rfl, rfl, rfl, rfl⟩ rfl rfl rfl rfl rfl (by kernel_rfl) Try.func12 (by kernel_rfl)
    (of_decide_eq_true (by kernel_rfl)) (by unfold Func.isWrapper; rw [if_neg (of_decide_eq_false (by kernel_rfl))]; exact ⟨rfl, rfl⟩)
    (fun os started H enc _ => lifted os started H enc)

theorem proved : Rows.CommitsOrderSaid := over
#print axioms proved

end Go.Proofs.Ythkgbfeljgdnaaa.CommitsOrder
