/-
  Plain laws of commits; the chapter's first examples. No condition.
-/
import Derived.Test.YthkgbfeljgdnaaaComSet
import Derived.Test.YthkgbfeljgdnaaaComNew
namespace Go.Proofs.Ythkgbfeljgdnaaa
open Go.RowKit

theorem okC_mk {m : List (List Int)} (h : m.length = 4) (hr : ∀ r ∈ m, r.length = 8 ∧ ∀ x ∈ r, 0 ≤ x ∧ x ≤ 1073741824) : okC m = true := by
  simp only [okC, Bool.and_eq_true, decide_eq_true_eq, Bool.not_eq_true']
  refine ⟨h, List.any_eq_false.2 fun r hr' => ?_⟩
  obtain ⟨h8, hx⟩ := hr r hr'
  simp only [rowBad, Bool.or_eq_true, decide_eq_true_eq, not_or, Bool.not_eq_true]
  refine ⟨by omega, List.any_eq_false.2 fun x hx' => ?_⟩
  have := hx x hx'
  simp only [badI, Bool.or_eq_true, decide_eq_true_eq, not_or]
  omega

theorem row_mem {m : List (List Int)} {t : Nat} (h : t < m.length) : m.getD t [] ∈ m := by
  have e : m.getD t [] = m[t] := by simp [List.getD, h]
  rw [e]; exact List.getElem_mem _
theorem num_mem {r : List Int} {k : Nat} (h : k < r.length) : r.getD k 0 ∈ r := by
  have e : r.getD k 0 = r[k] := by simp [List.getD, h]
  rw [e]; exact List.getElem_mem _

theorem getC_bd {m : List (List Int)} (hok : okC m = true) {t k : Int} (h1 : 0 ≤ t) (h2 : t < 4) (h3 : 0 ≤ k) (h4 : k < 8) : 0 ≤ getC m t k ∧ getC m t k ≤ 1073741824 := by
  obtain ⟨hl, hr⟩ := okC_spec hok
  have h5 := hr _ (row_mem (t := t.toNat) (by omega))
  exact h5.2 _ (num_mem (by omega))

theorem okC_set {m : List (List Int)} (hok : okC m = true) {t k n : Int} (h1 : 0 ≤ t) (h2 : t < 4) (h3 : 0 ≤ k) (h4 : k < 8) (h5 : 0 ≤ n) (h6 : n ≤ 1073741824) : okC (setC m t k n) = true := by
  have hb := getC_bd hok h1 h2 h3 h4
  obtain ⟨hl, hr⟩ := okC_spec hok
  have h8 := hr _ (row_mem (t := t.toNat) (by omega))
  refine okC_mk (by simp [setC, hl]) (fun r hr' => ?_)
  rcases List.mem_or_eq_of_mem_set hr' with h | h
  · exact hr r h
  · subst h
    refine ⟨by rw [List.length_set]; exact h8.1, fun x hx => ?_⟩
    rcases List.mem_or_eq_of_mem_set hx with h | h
    · exact h8.2 x h
    · omega

theorem getC_set {m : List (List Int)} (hok : okC m = true) {t k n t' k' : Int} (h1 : 0 ≤ t) (h2 : t < 4) (h3 : 0 ≤ k) (h4 : k < 8) (h1' : 0 ≤ t') (h3' : 0 ≤ k') :
    getC (setC m t k n) t' k' = if t' = t ∧ k' = k then max (getC m t k) n else getC m t' k' := by
  obtain ⟨hl, hr⟩ := okC_spec hok
  have h8 := (hr _ (row_mem (t := t.toNat) (by omega))).1
  unfold setC
  by_cases ht : t' = t
  · subst ht
    by_cases hk : k' = k
    · subst hk
      rw [if_pos ⟨rfl, rfl⟩]
      generalize hx : max (getC m t' k') n = x
      unfold getC
      rw [getD_set_same (by omega), getD_set_same (by omega)]
    · rw [if_neg (fun h => hk h.2)]
      generalize hx : max (getC m t' k) n = x
      unfold getC
      rw [getD_set_same (by omega), getD_set_other (by omega)]
  · rw [if_neg (fun h => ht h.1)]
    generalize hx : max (getC m t k) n = x
    unfold getC
    rw [getD_set_other (by omega)]

theorem askC_yes {m : List (List Int)} (hok : okC m = true) {t k : Int} (h1 : 0 ≤ t) (h2 : t < 4) (h3 : 0 ≤ k) (h4 : k < 8) : askC m t k = 0 := by
  simp [askC, hok, inTW, h1, h2, h3, h4]
theorem askC_zero {m : List (List Int)} {t k : Int} (h : askC m t k = 0) : okC m = true ∧ 0 ≤ t ∧ t < 4 ∧ 0 ≤ k ∧ k < 8 := by
  unfold askC at h
  by_cases hok : okC m = true
  · rw [if_pos hok] at h
    by_cases hin : inTW t k = true
    · exact ⟨hok, by simpa [inTW] using hin⟩
    · rw [if_neg hin] at h; omega
  · rw [if_neg hok] at h; omega

theorem get_yes {v : Value} {m : List (List Int)} (t k : Int) {w : World} (h : RowsR w v m) (hok : okC m = true) (h1 : 0 ≤ t) (h2 : t < 4) (h3 : 0 ≤ k) (h4 : k < 8) :
    Calls Try.prog 27 #[v, .int .i64 t, .int .i64 k] w fun e w' => e = .returned (.tuple #[.int .i64 (getC m t k), .int .i64 0]) ∧ Below w.heap.size w w' := by
  have := get_any t k h
  rw [askC_yes hok h1 h2 h3 h4] at this
  exact this

set_option maxHeartbeats 1000000 in
theorem alive20 (w : World) : Calls Try.prog 28 #[] w fun e w' => e = .returned (.bool true) ∧ Below w.heap.size w w' := by
  go_enter Try.func28, Try.ntmps28
  go_wp2_with fail
  refine (new_any _).mono ?_
  rintro e w1 ⟨v1, rfl, o1, b1⟩
  obtain ⟨a1, n1, c1, e1⟩ := o1.reads.shape
  subst e1
  have O1 := Lib.hid o1
  clear o1
  go_wp2_with fail
  refine (set_yes 1 2 9 O1.out.reads okC_new (by decide) (by decide) (by decide) (by decide) (by decide) (by decide)).mono ?_
  rintro e w2 ⟨v2, rfl, o2, b2⟩
  obtain ⟨a2, n2, c2, e2⟩ := o2.reads.shape
  subst e2
  have O2 := Lib.hid o2
  clear o2
  go_wp2_with fail
  refine (get_yes 1 2 O2.out.reads (by decide) (by decide) (by decide) (by decide) (by decide)).mono ?_
  rintro e w3 ⟨rfl, b3⟩
  rw [show getC (setC newC 1 2 9) 1 2 = 9 by decide]
  go_wp2_with fail
  refine (get_yes 2 1 (O2.out.reads.below b3) (by decide) (by decide) (by decide) (by decide) (by decide)).mono ?_
  rintro e w4 ⟨rfl, b4⟩
  rw [show getC (setC newC 1 2 9) 2 1 = 0 by decide]
  go_wp2_with fail
  refine (set_yes 1 2 5 ((O2.out.reads.below b3).below b4) (by decide) (by decide) (by decide) (by decide) (by decide) (by decide) (by decide)).mono ?_
  rintro e w5 ⟨v5, rfl, o5, b5⟩
  obtain ⟨a5, n5, c5, e5⟩ := o5.reads.shape
  subst e5
  have O5 := Lib.hid o5
  clear o5
  go_wp2_with fail
  refine (get_yes 1 2 O5.out.reads (by decide) (by decide) (by decide) (by decide) (by decide)).mono ?_
  rintro e w6 ⟨rfl, b6⟩
  rw [show getC (setC (setC newC 1 2 9) 1 2 5) 1 2 = 9 by decide]
  go_wp2_with fail
  go_ret
  have z1 := b1.size
  have z2 := b2.size
  have z3 := b3.size
  have z4 := b4.size
  have z5 := b5.size
  exact ⟨rfl, ((((b1.trans (b2.mono (by omega))).trans (b3.mono (by omega))).trans (b4.mono (by omega))).trans (b5.mono (by omega))).trans (b6.mono (by omega))⟩

end Go.Proofs.Ythkgbfeljgdnaaa
