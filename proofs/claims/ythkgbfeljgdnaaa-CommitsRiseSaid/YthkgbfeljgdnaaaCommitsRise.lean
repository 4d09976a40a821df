/-
  CommitsRise: for every commits, topics, consumers and number the law returns true and leaves the old world as it was. No condition.
-/
import Derived.Test.YthkgbfeljgdnaaaRows
import Derived.Test.YthkgbfeljgdnaaaLaw
import Derived.Test.YthkgbfeljgdnaaaComLaw
import Derived.Test.YthkgbfeljgdnaaaRefGreat
namespace Go.Proofs.Ythkgbfeljgdnaaa.CommitsRise
open Go.ChangeShapes Go.WideShapes Go.ChangeAt Go.RowKit

theorem chk {v : Value} {m : List (List Int)} {w : World} {c : Int} (h : RowsR w v m) (hc : (if okC m then (0 : Int) else 8) = c) :
    Calls Try.prog 29 #[v] w fun e w' => e = .returned (.int .i64 c) ∧ Below w.heap.size w w' := by rw [← hc]; exact comCheck_any h

/-- Great, for a value and its reading. -/
theorem great {v : Value} {m : List (List Int)} {w : World} (h : RowsR w v m) (hw : ∀ r ∈ m, r.length ≤ 17592186044416) : Calls Try.prog 30 #[v] w (GreatEnd m w) := great_any h hw

/-- Nothing is set. -/
theorem noSet {v : Value} {m : List (List Int)} (t k n o u c : Int) {w : World} (h : RowsR w v m) (hw : ∀ r ∈ m, r.length ≤ 17592186044416) (hc0 : c ≠ 0)
    (hc : (askC m t k ≠ 0 ∧ c = askC m t k) ∨ (askC m t k = 0 ∧ ¬ (0 ≤ n ∧ n ≤ 1073741824) ∧ c = 2)) :
    Calls Try.prog 9 #[v, .int .i64 t, .int .i64 k, .int .i64 n, .int .i64 o, .int .i64 u] w (LawEnd w) := by
  have S := fun w' (hb : Below w.heap.size w w') => set_no t k n (h.below hb) c hc
  have G := fun w' (hb : Below w.heap.size w w') => get_any o u (h.below hb)
  obtain ⟨x, hx⟩ : ∃ x, x = if askC m o u = 0 then getC m o u else 0 := ⟨_, rfl⟩
  obtain ⟨f, hf⟩ : ∃ f, f = askC m o u := ⟨_, rfl⟩
  rw [← hx, ← hf] at G
  have HS := Lib.hid S
  have HG := Lib.hid G
  have H0 := Lib.hid h
  have HW := Lib.hid hw
  obtain ⟨a, na, cap, rfl⟩ := h.shape
  have d1 : (c != 0) = true := by simpa using hc0
  have d2 : (c == 0) = false := by simpa using hc0
  clear S G hx hf h hc hc0 hw
  go_enter Try.func9, Try.ntmps9
  go_wp2_with fail
  refine (alive20 _).mono ?_
  rintro e w1 ⟨rfl, b1⟩
  go_wp2_with fail
  refine (great (H0.out.below b1) HW.out).mono ?_
  rintro e w2 ⟨⟨g, rfl, hg⟩, rfl⟩
  have HGR := Lib.hid hg
  clear hg
  cases g
  · go_wp2_with fail
    refine (HS.out _ b1).mono ?_
    rintro e w3 ⟨rfl, b3⟩
    have b3' := b1.trans (b3.mono b1.size)
    go_wp2_with fail
    refine (HG.out _ b3').mono ?_
    rintro e w4 ⟨rfl, b4⟩
    have b4' := b3'.trans (b4.mono b3'.size)
    go_wp2_with fail
    go_ret
    exact ⟨rfl, b4'⟩
  · go_wp2_with fail
    go_ret
    exact ⟨rfl, b1⟩

/-- Something is set, but nothing is there to get. -/
theorem noGet {v : Value} {m : List (List Int)} (t k n o u : Int) {w : World} (h : RowsR w v m) (hw : ∀ r ∈ m, r.length ≤ 17592186044416)
    (hok : okC m = true) (h1 : 0 ≤ t) (h2 : t < 4) (h3 : 0 ≤ k) (h4 : k < 8) (h5 : 0 ≤ n) (h6 : n ≤ 1073741824) (hf0 : askC m o u ≠ 0) :
    Calls Try.prog 9 #[v, .int .i64 t, .int .i64 k, .int .i64 n, .int .i64 o, .int .i64 u] w (LawEnd w) := by
  have S := fun w' (hb : Below w.heap.size w w') => set_yes t k n (h.below hb) hok h1 h2 h3 h4 h5 h6
  have G := fun w' (hb : Below w.heap.size w w') => get_any o u (h.below hb)
  obtain ⟨x, hx⟩ : ∃ x, x = if askC m o u = 0 then getC m o u else 0 := ⟨_, rfl⟩
  rw [← hx] at G
  obtain ⟨f, hf⟩ : ∃ f, f = askC m o u := ⟨_, rfl⟩
  rw [← hf] at G hf0
  have HS := Lib.hid S
  have HG := Lib.hid G
  have H0 := Lib.hid h
  have HW := Lib.hid hw
  obtain ⟨a, na, cap, rfl⟩ := h.shape
  have d1 : (f != 0) = true := by simpa using hf0
  clear S G hx hf h hf0 hok hw h1 h2 h3 h4 h5 h6
  go_enter Try.func9, Try.ntmps9
  go_wp2_with fail
  refine (alive20 _).mono ?_
  rintro e w1 ⟨rfl, b1⟩
  go_wp2_with fail
  refine (great (H0.out.below b1) HW.out).mono ?_
  rintro e w2 ⟨⟨g, rfl, hg⟩, rfl⟩
  have HGR := Lib.hid hg
  clear hg
  cases g
  · go_wp2_with fail
    refine (HS.out _ b1).mono ?_
    rintro e w3 ⟨v3, rfl, o3, b3⟩
    obtain ⟨a3, n3, c3, e3⟩ := o3.reads.shape
    subst e3
    clear o3
    have b3' := b1.trans (b3.mono b1.size)
    go_wp2_with fail
    refine (HG.out _ b3').mono ?_
    rintro e w4 ⟨rfl, b4⟩
    have b4' := b3'.trans (b4.mono b3'.size)
    go_wp2_with fail
    go_ret
    exact ⟨rfl, b4'⟩
  · go_wp2_with fail
    go_ret
    exact ⟨rfl, b1⟩

set_option maxHeartbeats 1000000 in
theorem both {v : Value} {m : List (List Int)} (t k n o u : Int) {w : World} (h : RowsR w v m) (hw : ∀ r ∈ m, r.length ≤ 17592186044416)
    (hok : okC m = true) (h1 : 0 ≤ t) (h2 : t < 4) (h3 : 0 ≤ k) (h4 : k < 8) (h5 : 0 ≤ n) (h6 : n ≤ 1073741824) (g1 : 0 ≤ o) (g2 : o < 4) (g3 : 0 ≤ u) (g4 : u < 8) :
    Calls Try.prog 9 #[v, .int .i64 t, .int .i64 k, .int .i64 n, .int .i64 o, .int .i64 u] w (LawEnd w) := by
  have hok2 := okC_set hok h1 h2 h3 h4 h5 h6
  have hgs := getC_set (t' := o) (k' := u) (n := n) hok h1 h2 h3 h4 g1 g3
  have S := fun w' (hb : Below w.heap.size w w') => set_yes t k n (h.below hb) hok h1 h2 h3 h4 h5 h6
  have G := fun w' (hb : Below w.heap.size w w') => get_yes o u (h.below hb) hok g1 g2 g3 g4
  have G2 := fun v' w' (hr : RowsR w' v' (setC m t k n)) => get_yes o u hr hok2 g1 g2 g3 g4
  have C2 := fun v' w' (hr : RowsR w' v' (setC m t k n)) => chk (c := 0) hr (by rw [if_pos hok2])
  obtain ⟨x, hx⟩ : ∃ x, x = getC m o u := ⟨_, rfl⟩
  obtain ⟨y, hy⟩ : ∃ y, y = getC (setC m t k n) o u := ⟨_, rfl⟩
  have hyx : y = if o = t ∧ u = k then max x n else x := by
    rw [hy, hgs, hx]
    by_cases hc : o = t ∧ u = k
    · rw [if_pos hc, if_pos hc, hc.1, hc.2]
    · rw [if_neg hc, if_neg hc]
  rw [← hx] at G
  rw [← hy] at G2
  have HS := Lib.hid S
  have HG := Lib.hid G
  have HG2 := Lib.hid G2
  have HC2 := Lib.hid C2
  have H0 := Lib.hid h
  have HW := Lib.hid hw
  obtain ⟨a, na, cap, rfl⟩ := h.shape
  clear S G G2 C2 hx hy hgs hok2 h hok hw h1 h2 h3 h4 h5 h6 g1 g2 g3 g4
  go_enter Try.func9, Try.ntmps9
  go_wp2_with fail
  refine (alive20 _).mono ?_
  rintro e w1 ⟨rfl, b1⟩
  go_wp2_with fail
  refine (great (H0.out.below b1) HW.out).mono ?_
  rintro e w2 ⟨⟨g, rfl, hg⟩, rfl⟩
  clear hg
  cases g
  · have HYX := Lib.hid hyx
    clear hyx
    go_wp2_with fail
    refine (HS.out _ b1).mono ?_
    rintro e w3 ⟨v3, rfl, o3, b3⟩
    obtain ⟨a3, n3, c3, e3⟩ := o3.reads.shape
    subst e3
    have O3 := Lib.hid o3.reads
    clear o3
    have b3' := b1.trans (b3.mono b1.size)
    go_wp2_with fail
    refine (HG.out _ b3').mono ?_
    rintro e w4 ⟨rfl, b4⟩
    have O4 := Lib.hid (O3.out.below b4)
    have b4' := b3'.trans (b4.mono b3'.size)
    clear b1 b3 b3' b4
    go_wp2_with fail
    refine (HG2.out _ _ O4.out).mono ?_
    rintro e w5 ⟨rfl, b5⟩
    have O5 := Lib.hid (O4.out.below b5)
    have b5' := b4'.trans (b5.mono b4'.size)
    clear b4' b5
    by_cases hot : o = t
    · by_cases huk : u = k
      · have e1 := HYX.out
        rw [if_pos ⟨hot, huk⟩] at e1
        subst hot huk
        have d1 : (o == o) = true := by simp
        have d2 : (u == u) = true := by simp
        by_cases hxn : x < n
        · obtain rfl : y = n := by omega
          have d3 : (y == y) = true := by simp
          have d4 : x ≤ y := by omega
          clear e1
          go_wp2_with fail
          refine (HC2.out _ _ O5.out).mono ?_
          rintro e w6 ⟨rfl, b6⟩
          have b6' := b5'.trans (b6.mono b5'.size)
          go_wp2_with fail
          go_ret
          exact ⟨rfl, b6'⟩
        · obtain rfl : y = x := by omega
          have d3 : (y == y) = true := by simp
          have d4 : y ≤ y := by omega
          clear e1
          go_wp2_with fail
          refine (HC2.out _ _ O5.out).mono ?_
          rintro e w6 ⟨rfl, b6⟩
          have b6' := b5'.trans (b6.mono b5'.size)
          go_wp2_with fail
          go_ret
          exact ⟨rfl, b6'⟩
      · have e1 := HYX.out
        rw [if_neg (fun h => huk h.2)] at e1
        subst hot e1
        have d1 : (o == o) = true := by simp
        have d2 : (u == k) = false := by simpa using huk
        have d3 : (y == y) = true := by simp
        have d4 : y ≤ y := by omega
        clear huk
        go_wp2_with fail
        refine (HC2.out _ _ O5.out).mono ?_
        rintro e w6 ⟨rfl, b6⟩
        have b6' := b5'.trans (b6.mono b5'.size)
        go_wp2_with fail
        go_ret
        exact ⟨rfl, b6'⟩
    · have e1 := HYX.out
      rw [if_neg (fun h => hot h.1)] at e1
      subst e1
      have d1 : (o == t) = false := by simpa using hot
      have d3 : (y == y) = true := by simp
      have d4 : y ≤ y := by omega
      clear hot
      go_wp2_with fail
      refine (HC2.out _ _ O5.out).mono ?_
      rintro e w6 ⟨rfl, b6⟩
      have b6' := b5'.trans (b6.mono b5'.size)
      go_wp2_with fail
      go_ret
      exact ⟨rfl, b6'⟩
  · clear hyx
    go_wp2_with fail
    go_ret
    exact ⟨rfl, b1⟩

theorem walk {v : Value} {m : List (List Int)} (t k n o u : Int) {w : World} (h : RowsR w v m) (hw : ∀ r ∈ m, r.length * 8 ≤ reachBytes) :
    Calls Try.prog 9 #[v, .int .i64 t, .int .i64 k, .int .i64 n, .int .i64 o, .int .i64 u] w (LawEnd w) := by
  have hw' : ∀ r ∈ m, r.length ≤ 17592186044416 := fun r hr => by have := hw r hr; unfold reachBytes at this; omega
  by_cases ha : askC m t k = 0
  · by_cases hn : 0 ≤ n ∧ n ≤ 1073741824
    · obtain ⟨hok, h1, h2, h3, h4⟩ := askC_zero ha
      by_cases hf : askC m o u = 0
      · obtain ⟨_, g1, g2, g3, g4⟩ := askC_zero hf
        exact both t k n o u h hw' hok h1 h2 h3 h4 hn.1 hn.2 g1 g2 g3 g4
      · exact noGet t k n o u h hw' hok h1 h2 h3 h4 hn.1 hn.2 hf
    · exact noSet t k n o u 2 h hw' (by decide) (Or.inr ⟨ha, hn, rfl⟩)
  · exact noSet t k n o u _ h hw' ha (Or.inl ⟨ha, rfl⟩)

theorem cells_row : Try.prog.cellsOf 65 = 1 := by kernel_rfl
theorem cells_int : Try.prog.cellsOf 3 = 1 := by kernel_rfl
theorem bytes_int : Try.prog.bytesOf 3 = 8 := by kernel_rfl

theorem own : ownKnob Try.prog.godebug = none := by kernel_rfl

set_option maxRecDepth 100000 in
set_option linter.unusedVariables false in
theorem lifted (os : Os) (started : os.Started) (H : Type) (enc : TypeId × Value → H) :
    ReturnsInHanded {} Try.checked os 9 .any (Rows.commitsRiseSpec.pre6 enc Try.prog Try.f9 Rows.commitsRiseRow.domain false) (Rows.commitsRiseSpec.post enc Try.prog Try.f9 false true false false) := by
  refine returnsInHanded_of_change_sized (C := Try.checked) own started (by kernel_rfl) Try.func9
    (ChangeSpec.witness6 (enc := enc) (C := Try.checked) false ⟨#[], #[.slice none 0 0, .int .i64 0, .int .i64 0, .int .i64 0, .int .i64 0, .int .i64 0], []⟩ 8 (by kernel_rfl) (by kernel_rfl) (by kernel_rfl) (by kernel_rfl)) ?_
  intro W base args ds gs before hval0 hW hcnd hsz0 hholds
  have hsz : (DataW.weightsEach Try.prog (Try.f9.params.toList ++ Rows.commitsRiseSpec.plain.varTypes Try.prog) (ds ++ gs)).all (· ≤ reachBytes) = true := hsz0
  have hval : ∀ (j : Nat) t v, Try.f9.params[j]? = some t → args[j]? = some v → Value.okWide Try.prog W .any base t v := hval0
  have hW' := hW
  obtain ⟨p, q, hA0, hV, _, hfz, _⟩ := hW
  have hA : DataW.TrodAll enc Try.prog W 0 (fun _ => true) true Try.f9.params.toList args.toList ds p := hA0
  rw [Try.params9] at hA hval hsz
  obtain ⟨v0, vs0, d0, ds0, p0, q0, hargs, rfl, rfl, h0, r0⟩ := trodAll_cons hA
  obtain ⟨v1, vs1, d1, ds1, p1, q1, rfl, rfl, rfl, h1, r1⟩ := trodAll_cons r0
  obtain ⟨v2, vs2, d2, ds2, p2, q2, rfl, rfl, rfl, h2, r2⟩ := trodAll_cons r1
  obtain ⟨v3, vs3, d3, ds3, p3, q3, rfl, rfl, rfl, h3, r3⟩ := trodAll_cons r2
  obtain ⟨v4, vs4, d4, ds4, p4, q4, rfl, rfl, rfl, h4, r4⟩ := trodAll_cons r3
  obtain ⟨v5, vs5, d5, ds5, p5, q5, rfl, rfl, rfl, h5, r5⟩ := trodAll_cons r4
  obtain ⟨rfl, rfl, rfl⟩ := trodAll_nil r5
  obtain rfl : args = #[v0, v1, v2, v3, v4, v5] := by cases args; simp_all
  obtain ⟨rfl, _⟩ := trodVars_none hV
  have hwt : ∀ (j : Nat) (t : TypeId) (d : DataW H), (_ : List TypeId)[j]? = some t → (_ : List (DataW H))[j]? = some d → ∀ n ∈ d.weights Try.prog t, n ≤ reachBytes := fun j t d ht hd n hn => by simpa using List.all_eq_true.1 hsz n (DataW.weights_mem_each ht hd n hn)
  obtain ⟨m0, R0, u0, w0⟩ := open_rows (hval 0 _ v0 rfl rfl) h0 (hwt 0 _ _ rfl rfl) Try.underlying44 Try.underlying65 Try.underlying3 cells_row cells_int
  obtain ⟨a1, rfl, rfl, _, w1⟩ := open_int Try.underlying3 (hval 1 _ v1 rfl rfl) h1
  obtain ⟨a2, rfl, rfl, _, w2⟩ := open_int Try.underlying3 (hval 2 _ v2 rfl rfl) h2
  obtain ⟨a3, rfl, rfl, _, w3⟩ := open_int Try.underlying3 (hval 3 _ v3 rfl rfl) h3
  obtain ⟨a4, rfl, rfl, _, w4⟩ := open_int Try.underlying3 (hval 4 _ v4 rfl rfl) h4
  obtain ⟨a5, rfl, rfl, _, w5⟩ := open_int Try.underlying3 (hval 5 _ v5 rfl rfl) h5
  refine (walk a1 a2 a3 a4 a5 R0 (fun r hr => by have := (w0 r hr).1; rwa [bytes_int] at this)).mono fun e W' ⟨he, hb⟩ => ?_
  subst he
  exact ⟨_, rfl, law_post hW' rfl rfl rfl Try.underlying4 (by kernel_rfl) (by kernel_rfl) hb⟩

theorem over : Rows.commitsRiseRow.holds Try.pinned (OpenSpec.ofChange Rows.commitsRiseSpec) :=
  OpenClaim.holds_of_wide 9 Try.f9 rfl rfl rfl rfl rfl rfl rfl ⟨rfl, rfl, rfl, rfl, rfl⟩ rfl rfl rfl rfl rfl (by kernel_rfl) Try.func9 (by kernel_rfl)
    (of_decide_eq_true (by kernel_rfl)) (by unfold Func.isWrapper; rw [if_neg (of_decide_eq_false (by kernel_rfl))]; exact ⟨rfl, rfl⟩)
    (fun os started H enc _ => lifted os started H enc)

theorem proved : Rows.CommitsRiseSaid := over
#print axioms proved

end Go.Proofs.Ythkgbfeljgdnaaa.CommitsRise
