/-
  commits.asked, commits.Get, commits.Set. No condition but that the slices read and are not great.
-/
import Derived.Test.YthkgbfeljgdnaaaComCheck
import Derived.Test.YthkgbfeljgdnaaaComTwin
import Derived.StillTailTactics
import Derived.Laws.OwnMore
namespace Go.Proofs.Ythkgbfeljgdnaaa
open Go.RowKit

def inTW (t k : Int) : Bool := decide (0 ≤ t ∧ t < 4 ∧ 0 ≤ k ∧ k < 8)
def inN (n : Int) : Bool := decide (0 ≤ n ∧ n ≤ 1073741824)
def askC (m : List (List Int)) (t k : Int) : Int := if okC m then (if inTW t k then 0 else 2) else 8
def getC (m : List (List Int)) (t k : Int) : Int := (m.getD t.toNat []).getD k.toNat 0
def setC (m : List (List Int)) (t k n : Int) : List (List Int) := m.set t.toNat ((m.getD t.toNat []).set k.toNat (max (getC m t k) n))

theorem okC_spec {m : List (List Int)} (h : okC m = true) : m.length = 4 ∧ ∀ r ∈ m, r.length = 8 ∧ ∀ x ∈ r, 0 ≤ x ∧ x ≤ 1073741824 := by
  simp only [okC, Bool.and_eq_true, decide_eq_true_eq, Bool.not_eq_true'] at h
  refine ⟨h.1, fun r hr => ?_⟩
  have h2 := List.any_eq_false.1 h.2 r hr
  simp only [rowBad, Bool.or_eq_true, decide_eq_true_eq, not_or, Bool.not_eq_true] at h2
  refine ⟨by omega, fun x hx => ?_⟩
  have h3 := List.any_eq_false.1 h2.2 x hx
  simp only [badI, Bool.or_eq_true, decide_eq_true_eq, not_or] at h3
  omega

theorem okC_few {m : List (List Int)} (h : okC m = true) : few m := by
  obtain ⟨h1, h2⟩ := okC_spec h
  exact ⟨by omega, fun r hr => by have := (h2 r hr).1; omega⟩

theorem asked_any {v : Value} {m : List (List Int)} (t k : Int) {w : World} (h : RowsR w v m) :
    Calls Try.prog 43 #[v, .int .i64 t, .int .i64 k] w fun e w' => e = .returned (.int .i64 (askC m t k)) ∧ Below w.heap.size w w' := by
  have K := comCheck_any h
  obtain ⟨a, na, cap, rfl⟩ := h.shape
  cases hok : okC m
  · simp only [hok, Bool.false_eq_true, if_false] at K
    have e : askC m t k = 8 := by simp [askC, hok]
    rw [e]
    have HK := Lib.hid K
    clear K hok e h
    go_enter Try.func43, Try.ntmps43
    go_wp2_with fail
    refine HK.out.mono ?_
    rintro e w1 ⟨rfl, hb⟩
    go_wp2_with fail
    go_ret
    exact ⟨rfl, hb⟩
  · simp only [hok, if_true] at K
    have HK := Lib.hid K
    by_cases hin : 0 ≤ t ∧ t < 4 ∧ 0 ≤ k ∧ k < 8
    · have e : askC m t k = 0 := by simp [askC, hok, inTW, hin]
      rw [e]
      obtain ⟨h1, h2, h3, h4⟩ := hin
      clear K hok e h
      go_enter Try.func43, Try.ntmps43
      go_wp2_with fail
      refine HK.out.mono ?_
      rintro e w1 ⟨rfl, hb⟩
      go_wp2_with fail
      go_ret
      exact ⟨rfl, hb⟩
    · have e : askC m t k = 2 := by simp only [askC, hok, if_true, inTW, decide_eq_true_eq]; rw [if_neg hin]
      rw [e]
      clear K hok e h
      by_cases h1 : t < 0
      · go_enter Try.func43, Try.ntmps43
        go_wp2_with fail
        refine HK.out.mono ?_
        rintro e w1 ⟨rfl, hb⟩
        go_wp2_with fail
        go_ret
        exact ⟨rfl, hb⟩
      · by_cases h2 : 4 ≤ t
        · go_enter Try.func43, Try.ntmps43
          go_wp2_with fail
          refine HK.out.mono ?_
          rintro e w1 ⟨rfl, hb⟩
          go_wp2_with fail
          go_ret
          exact ⟨rfl, hb⟩
        · by_cases h3 : k < 0
          · go_enter Try.func43, Try.ntmps43
            go_wp2_with fail
            refine HK.out.mono ?_
            rintro e w1 ⟨rfl, hb⟩
            go_wp2_with fail
            go_ret
            exact ⟨rfl, hb⟩
          · have h4 : 8 ≤ k := by omega
            clear hin
            go_enter Try.func43, Try.ntmps43
            go_wp2_with fail
            refine HK.out.mono ?_
            rintro e w1 ⟨rfl, hb⟩
            go_wp2_with fail
            go_ret
            exact ⟨rfl, hb⟩

/-- The cell of a number, and of its row. -/
theorem rows_cell {w : World} {v : Value} {m : List (List Int)} (h : RowsR w v m) (hok : okC m = true) {t k : Int} (h1 : 0 ≤ t) (h2 : t < 4) (h3 : 0 ≤ k) (h4 : k < 8) :
    ∃ b off cap rb roff rcap, v = .slice (some ⟨b, off, none⟩) 4 cap ∧ w.cell? ⟨b, off + t.toNat, none⟩ = some (.slice (some ⟨rb, roff, none⟩) 8 rcap) ∧ w.cell? ⟨rb, roff + k.toNat, none⟩ = some (.int .i64 (getC m t k)) := by
  obtain ⟨hl, hr⟩ := okC_spec hok
  obtain ⟨us, e1, e2, e3⟩ := h
  obtain ⟨a, cap, rfl, hcap, hm, _, hc⟩ := e1.one (c := fun u => u) .nilIface
  obtain ⟨b, off, rfl, hd⟩ := hc (by omega)
  have ht := hd t.toNat (by omega)
  have hrow := e3 t.toNat (by omega)
  have h8 : (m.getD t.toNat []).length = 8 := by
    have e : m.getD t.toNat [] = m[t.toNat]'(by omega) := by simp [List.getD, show t.toNat < m.length by omega]
    rw [e]
    exact (hr _ (List.getElem_mem _)).1
  obtain ⟨ra, rcap, hu, _, _, _, hrc⟩ := hrow.one (c := fun n => .int .i64 n) 0
  obtain ⟨rb, roff, rfl, hrd⟩ := hrc (by omega)
  have hk := hrd k.toNat (by omega)
  rw [h8] at hu
  rw [hu] at ht
  exact ⟨b, off, cap, rb, roff, rcap, by rw [e2, hl], ht, hk⟩

theorem get_any {v : Value} {m : List (List Int)} (t k : Int) {w : World} (h : RowsR w v m) :
    Calls Try.prog 27 #[v, .int .i64 t, .int .i64 k] w fun e w' => e = .returned (.tuple #[.int .i64 (if askC m t k = 0 then getC m t k else 0), .int .i64 (askC m t k)]) ∧ Below w.heap.size w w' := by
  have K := asked_any t k h
  by_cases hok : okC m = true
  · by_cases hin : 0 ≤ t ∧ t < 4 ∧ 0 ≤ k ∧ k < 8
    · have e : askC m t k = 0 := by simp [askC, hok, inTW, hin]
      obtain ⟨h1, h2, h3, h4⟩ := hin
      obtain ⟨b, off, cap, rb, roff, rcap, rfl, c1, c2⟩ := rows_cell h hok h1 h2 h3 h4
      rw [e] at K ⊢
      rw [if_pos rfl]
      obtain ⟨x, hx⟩ : ∃ x, x = getC m t k := ⟨_, rfl⟩
      rw [← hx] at c2 ⊢
      have HK := Lib.hid K
      clear K hx e h hok
      go_enter Try.func27, Try.ntmps27
      go_wp2_with fail
      refine HK.out.mono ?_
      rintro e w1 ⟨rfl, hb⟩
      have d1 := keep hb c1
      have d2 := keep hb c2
      clear c1 c2
      go_wp2_with fail
      go_ret2
      exact ⟨rfl, hb⟩
    · have e : askC m t k = 2 := by simp only [askC, hok, if_true, inTW, decide_eq_true_eq]; rw [if_neg hin]
      rw [e] at K ⊢
      have HK := Lib.hid K
      obtain ⟨a, na, cap, rfl⟩ := h.shape
      clear K e h
      go_enter Try.func27, Try.ntmps27
      go_wp2_with fail
      refine HK.out.mono ?_
      rintro e w1 ⟨rfl, hb⟩
      go_wp2_with fail
      go_ret2
      exact ⟨rfl, hb⟩
  · have e : askC m t k = 8 := by simp [askC, hok]
    rw [e] at K ⊢
    have HK := Lib.hid K
    obtain ⟨a, na, cap, rfl⟩ := h.shape
    clear K e h
    go_enter Try.func27, Try.ntmps27
    go_wp2_with fail
    refine HK.out.mono ?_
    rintro e w1 ⟨rfl, hb⟩
    go_wp2_with fail
    go_ret2
    exact ⟨rfl, hb⟩


theorem getD_set_same {α : Type} {l : List α} {i : Nat} {x d : α} (h : i < l.length) : (l.set i x).getD i d = x := by simp [List.getD, h]
theorem getD_set_other {α : Type} {l : List α} {i j : Nat} {x d : α} (h : i ≠ j) : (l.set i x).getD j d = l.getD j d := by simp [List.getD, List.getElem?_set_ne h]
theorem rowVals_set (r : List Int) (i : Nat) (x : Int) : rowVals (r.set i x) = (rowVals r).set i (.int .i64 x) := by simp [rowVals, List.map_set]

/-- What the store of a number needs, and what it leaves. -/
theorem own_cells {w : World} {base : Nat} {v : Value} {m : List (List Int)} (h : OwnC w base v m) (hok : okC m = true) {t k : Int} (h1 : 0 ≤ t) (h2 : t < 4) (h3 : 0 ≤ k) (h4 : k < 8) :
    ∃ g cap gt rcap, v = .slice (some ⟨g, 0, none⟩) 4 cap ∧ w.cell? ⟨g, t.toNat, none⟩ = some (.slice (some ⟨gt, 0, none⟩) 8 rcap) ∧ w.cell? ⟨gt, k.toNat, none⟩ = some (.int .i64 (getC m t k)) ∧ w.frozen? ⟨gt, k.toNat, none⟩ = false ∧ base ≤ gt ∧
      ∀ x, OwnC (w.setCell ⟨gt, k.toNat, none⟩ (.int .i64 x)) base v (m.set t.toNat ((m.getD t.toNat []).set k.toNat x)) := by
  obtain ⟨hl, hr⟩ := okC_spec hok
  obtain ⟨us, e1, e2, e3, e4⟩ := h
  have htl : t.toNat < m.length := by omega
  have h8 : (m.getD t.toNat []).length = 8 := by
    have e : m.getD t.toNat [] = m[t.toNat] := by simp [List.getD, htl]
    rw [e]
    exact (hr _ (List.getElem_mem _)).1
  have hrow := e3 t.toNat htl
  rw [h8] at hrow
  obtain ⟨g, cap, hv⟩ : ∃ g cap, v = .slice (some ⟨g, 0, none⟩) us.length cap := by
    rcases e1.2 with ⟨_, h0⟩ | ⟨g, cap, _, hv, _⟩
    · omega
    · exact ⟨g, cap, hv⟩
  obtain ⟨gt, rcap, hu⟩ : ∃ gt rcap, us.getD t.toNat .nilIface = .slice (some ⟨gt, 0, none⟩) 8 rcap := by
    rcases hrow.2 with ⟨_, h0⟩ | ⟨g, cap, _, hv, _⟩
    · omega
    · exact ⟨g, cap, hv⟩
  subst hv
  have c1 := e1.cellAt t.toNat (by omega)
  have c1' : w.cell? ⟨g, t.toNat, none⟩ = some (.slice (some ⟨gt, 0, none⟩) 8 rcap) := by
    rw [c1, ← hu]
    simp [List.getD, show t.toNat < us.length by omega]
  have hrow' := hrow
  rw [hu] at hrow'
  have c2 := hrow'.cellAt k.toNat (by omega)
  have c2' : w.cell? ⟨gt, k.toNat, none⟩ = some (.int .i64 (getC m t k)) := by
    rw [c2]
    exact rowVals_get (by omega)
  refine ⟨g, cap, gt, rcap, by rw [e2, hl], c1', c2', hrow'.frozenAt _, (hrow'.lt gt rfl).1, fun x => ?_⟩
  obtain ⟨st, _⟩ := hrow'.stored k.toNat (.int .i64 x)
  have hne : (Value.slice (some ⟨g, 0, none⟩) us.length cap).ownBlock ≠ some gt := by
    rcases rows_apart hrow' e1 (by decide) with h0 | h0
    · simp [Value.ownBlock] at h0
    · simpa [Value.ownBlock] using fun e => h0 (by simp [Value.ownBlock, e])
  refine ⟨us, ownsRow_setCell_other e1 hne _, by simpa using e2, fun i hi => ?_, fun i j hi hj hij => e4 i j (by simpa using hi) (by simpa using hj) hij⟩
  have hi' : i < m.length := by simpa using hi
  by_cases hit : i = t.toNat
  · subst hit
    rw [getD_set_same htl, rowVals_set, List.length_set, h8, hu]
    exact st
  · rw [getD_set_other (fun e => hit e.symm)]
    refine ownsRow_setCell_other (e3 i hi') ?_ _
    rcases e4 i t.toNat hi' htl hit with h0 | h0
    · rw [h0]; simp
    · rw [hu] at h0
      exact h0

def SetYes (m : List (List Int)) (t k n : Int) (w : World) (e : Ending) (w' : World) : Prop := ∃ v', e = .returned (.tuple #[v', .int .i64 0]) ∧ OwnC w' w.heap.size v' (setC m t k n) ∧ Below w.heap.size w w'

set_option maxHeartbeats 1000000 in
theorem set_yes {v : Value} {m : List (List Int)} (t k n : Int) {w : World} (h : RowsR w v m) (hok : okC m = true) (h1 : 0 ≤ t) (h2 : t < 4) (h3 : 0 ≤ k) (h4 : k < 8) (h5 : 0 ≤ n) (h6 : n ≤ 1073741824) :
    Calls Try.prog 25 #[v, .int .i64 t, .int .i64 k, .int .i64 n] w (SetYes m t k n w) := by
  have K := asked_any t k h
  have e : askC m t k = 0 := by simp [askC, hok, inTW, h1, h2, h3, h4]
  rw [e] at K
  have HK := Lib.hid K
  have H0 := Lib.hid h
  have HOK := Lib.hid hok
  obtain ⟨a, na, cap, rfl⟩ := h.shape
  clear K e hok h
  go_enter Try.func25, Try.ntmps25
  go_wp2_with fail
  refine HK.out.mono ?_
  rintro e w1 ⟨rfl, hb⟩
  go_wp2_with fail
  refine (twin_any (H0.out.below hb) (okC_few HOK.out)).mono ?_
  rintro e w2 ⟨v', rfl, hown, hb2⟩
  obtain ⟨g, cap', gt, rcap, rfl, c1, c2, c3, hbg, hst⟩ := own_cells hown HOK.out h1 h2 h3 h4
  obtain ⟨x, hx⟩ : ∃ x, x = getC m t k := ⟨_, rfl⟩
  rw [← hx] at c2
  have HX := Lib.hid hx
  have HST := Lib.hid hst
  have hbb : Below w.heap.size w w2 := hb.trans (hb2.mono hb.size)
  have hz : w.heap.size ≤ gt := Nat.le_trans hb.size hbg
  clear hx hst hown
  have t1 : (t : Int) < ((4 : Nat) : Int) := by omega
  have k1 : (k : Int) < ((8 : Nat) : Int) := by omega
  by_cases hxn : x < n
  all_goals
    go_wp2_with fail
    refine wp_region_still_tail 15 (by kernel_rfl) (by kernel_rfl) ?_
    simp only [List.take_succ_cons, List.take_zero, List.drop_succ_cons, List.drop_zero]
    change wpStill _ _ (World.drew _) _ _ _
    repeat still_step
    refine wpStill_nil ?_
    change wpList _ _ _ _ _ (World.drew _)
    go_wp2_with fail
    go_ret2
    refine ⟨_, rfl, ?_, (hbb.setCell (p := ⟨gt, k.toNat, none⟩) hz _).drew⟩
    have e : setC m t k n = m.set t.toNat ((m.getD t.toNat []).set k.toNat (max x n)) := by rw [HX.out]; rfl
    rw [e]
    first
      | (rw [show max x n = n by omega]; exact (HST.out n).drew.le hb.size)
      | (rw [show max x n = x by omega]; exact (HST.out x).drew.le hb.size)

theorem set_no {v : Value} {m : List (List Int)} (t k n : Int) {w : World} (h : RowsR w v m) (c : Int) (hc : (askC m t k ≠ 0 ∧ c = askC m t k) ∨ (askC m t k = 0 ∧ ¬ (0 ≤ n ∧ n ≤ 1073741824) ∧ c = 2)) :
    Calls Try.prog 25 #[v, .int .i64 t, .int .i64 k, .int .i64 n] w fun e w' => e = .returned (.tuple #[.slice none 0 0, .int .i64 c]) ∧ Below w.heap.size w w' := by
  have K := asked_any t k h
  obtain ⟨a, na, cap, rfl⟩ := h.shape
  clear h
  rcases hc with ⟨h1, rfl⟩ | ⟨h1, h2, rfl⟩
  · obtain ⟨c, hc⟩ : ∃ c, c = askC m t k := ⟨_, rfl⟩
    rw [← hc] at K h1 ⊢
    have hd : (c != 0) = true := by simpa using h1
    have HK := Lib.hid K
    clear K hc h1
    go_enter Try.func25, Try.ntmps25
    go_wp2_with fail
    refine HK.out.mono ?_
    rintro e w1 ⟨rfl, hb⟩
    go_wp2_with fail
    go_ret2
    exact ⟨rfl, hb⟩
  · rw [h1] at K
    have HK := Lib.hid K
    clear K h1
    by_cases h3 : n < 0
    · clear h2
      go_enter Try.func25, Try.ntmps25
      go_wp2_with fail
      refine HK.out.mono ?_
      rintro e w1 ⟨rfl, hb⟩
      go_wp2_with fail
      go_ret2
      exact ⟨rfl, hb⟩
    · have h4 : 1073741824 < n := by omega
      clear h2
      go_enter Try.func25, Try.ntmps25
      go_wp2_with fail
      refine HK.out.mono ?_
      rintro e w1 ⟨rfl, hb⟩
      go_wp2_with fail
      go_ret2
      exact ⟨rfl, hb⟩

end Go.Proofs.Ythkgbfeljgdnaaa
