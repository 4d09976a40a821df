/-
  The document's asked, Fetch, Committed and End of a group's topics. No condition but that the topics read.
-/
import Derived.Test.YtblgmjbajnkcdaaRefStrMay
namespace Go.Proofs.Ytblgmjbajnkcdaa
open Go.RowKit

theorem refStrAsked_any {v : Value} {s : Str} {w : World} {c : Int} (n : Int) (h : StrR w v s) (hc : askS s n = c) :
    Calls Try.prog 36 #[v, .int .i64 n] w fun e w' => e = .returned (.int .i64 c) ∧ Below w.heap.size w w' := by
  have HS := Lib.hid h
  obtain ⟨a, cap, b, nc, cc, rfl, _, _⟩ := h.shape
  obtain ⟨d, hd⟩ : ∃ d : Bool, d = decide (mayS s) := ⟨_, rfl⟩
  have HD := Lib.hid hd
  have hall : (d = false ∧ c = 8) ∨ (d = true ∧ ((n < 0 ∧ c = 2) ∨ (0 ≤ n ∧ 4 ≤ n ∧ c = 2) ∨ (0 ≤ n ∧ n < 4 ∧ c = 0))) := by
    subst hc
    unfold askS
    by_cases hm : mayS s
    · rw [decide_eq_true hm] at hd
      rw [if_pos hm]
      refine Or.inr ⟨hd, ?_⟩
      split <;> omega
    · rw [decide_eq_false hm] at hd
      rw [if_neg hm]
      exact Or.inl ⟨hd, rfl⟩
  clear h hc hd
  obtain ⟨nt, hnt⟩ : ∃ nt, nt = s.tops.length := ⟨_, rfl⟩
  rw [← hnt] at HS ⊢
  clear hnt
  rcases hall with ⟨rfl, rfl⟩ | ⟨rfl, (⟨h1, rfl⟩ | ⟨h1, h2, rfl⟩ | ⟨h1, h2, rfl⟩)⟩
  all_goals
    go_enter Try.func36, Try.ntmps36
    go_wp2_with fail
    refine Calls.mono (refStrMay_any ?_ HD.out) ?_
    · exact HS.out.below (by repeat (first | (with_reducible exact Below.refl _ _) | (with_reducible exact Below.refl _ _) | (with_reducible apply Below.drew) | (with_reducible apply below_alloc) | ((with_reducible refine Below.alloc ?_ ?_ _); rotate_left; focus (first | (simp; done) | (simp; omega) | omega)) | ((with_reducible refine Below.setCell ?_ ?_ _); rotate_left; focus (first | (simp; done) | (simp; omega) | omega))))
    rintro e w1 ⟨rfl, hb⟩
    have HB : Hid (Below w.heap.size w _) := below_step (by repeat (first | (with_reducible exact Below.refl _ _) | (with_reducible exact Below.refl _ _) | (with_reducible apply Below.drew) | (with_reducible apply below_alloc) | ((with_reducible refine Below.alloc ?_ ?_ _); rotate_left; focus (first | (simp; done) | (simp; omega) | omega)) | ((with_reducible refine Below.setCell ?_ ?_ _); rotate_left; focus (first | (simp; done) | (simp; omega) | omega)))) hb
    clear hb
    go_wp2_with fail
    go_ret
    exact ⟨rfl, HB.out⟩

/-- How the walk takes a stream apart: its slices, its topics' place, a topic. -/
theorem refStrEnd_any {v : Value} {s : Str} {w : World} {x y : Int} (n : Int) (h : StrR w v s) (hu : endS s n = (x, y)) :
    Calls Try.prog 15 #[v, .int .i64 n] w fun e w' => e = .returned (.tuple #[.int .i64 x, .int .i64 y]) ∧ Below w.heap.size w w' := by
  have HS := Lib.hid h
  obtain ⟨a, cap, b, nc, cc, rfl, hT, _⟩ := h.shape
  obtain ⟨nt, hnt⟩ : ∃ nt, nt = s.tops.length := ⟨_, rfl⟩
  rw [← hnt] at HS hT ⊢
  by_cases ha : askS s n = 0
  · rw [endS, if_pos ha] at hu
    cases hu
    have HA := Lib.hid ha
    obtain ⟨hm, h0, h1⟩ := askS_zero.1 ha
    have h4 := hm.1.1
    obtain rfl : nt = 4 := by omega
    obtain ⟨⟨-, hcap, hmx⟩, g, off, rfl, ea, ecap, ⟨⟨⟨_, c1⟩, _⟩, _⟩, _⟩ := StrR.top hT (i := n) h0 (by omega)
    obtain ⟨nx, hnx⟩ : ∃ nx, nx = (topN s n).next := ⟨_, rfl⟩
    rw [show s.tops.getD n.toNat default = topN s n from rfl, ← hnx] at c1
    rw [← hnx]
    unfold maxLen at hmx
    clear h hT hnt ha hm h4 hnx
    go_enter Try.func15, Try.ntmps15
    go_wp2_with fail
    refine Calls.mono (refStrAsked_any n ?_ HA.out) ?_
    · exact HS.out.below (by repeat (first | (with_reducible exact Below.refl _ _) | (with_reducible exact Below.refl _ _) | (with_reducible apply Below.drew) | (with_reducible apply below_alloc) | ((with_reducible refine Below.alloc ?_ ?_ _); rotate_left; focus (first | (simp; done) | (simp; omega) | omega)) | ((with_reducible refine Below.setCell ?_ ?_ _); rotate_left; focus (first | (simp; done) | (simp; omega) | omega))))
    rintro e w1 ⟨rfl, hb⟩
    have HB : Hid (Below w.heap.size w _) := below_step (by repeat (first | (with_reducible exact Below.refl _ _) | (with_reducible exact Below.refl _ _) | (with_reducible apply Below.drew) | (with_reducible apply below_alloc) | ((with_reducible refine Below.alloc ?_ ?_ _); rotate_left; focus (first | (simp; done) | (simp; omega) | omega)) | ((with_reducible refine Below.setCell ?_ ?_ _); rotate_left; focus (first | (simp; done) | (simp; omega) | omega)))) hb
    have P : Blk _ (w.heap.size) _ _ := Blk.step (by repeat (first | ((with_reducible apply Blk.new); focus (first | rfl | (simp; done) | (simp; omega))) | (with_reducible apply Blk.drew) | (with_reducible apply Blk.alloc) | (with_reducible apply Blk.set_) | ((with_reducible apply Blk.far); rotate_left; focus (first | (simp; done) | (simp; omega) | omega)))) hb
    obtain ⟨p0, p1, pz⟩ := cells2 P
    have pl := Blk.lt P
    have HP := Lib.hid P
    clear P
    have d1 := keep HB.out c1
    clear hb c1
    go_wp2_with fail
    go_ret2
    exact ⟨rfl, HB.out⟩
  · rw [endS, if_neg ha] at hu
    injection hu with hx hy
    subst hx
    have HA := Lib.hid hy
    have hd : (y != 0) = true := by rw [← hy]; simpa using ha
    clear h hT hnt ha hy
    go_enter Try.func15, Try.ntmps15
    go_wp2_with fail
    refine Calls.mono (refStrAsked_any n ?_ HA.out) ?_
    · exact HS.out.below (by repeat (first | (with_reducible exact Below.refl _ _) | (with_reducible exact Below.refl _ _) | (with_reducible apply Below.drew) | (with_reducible apply below_alloc) | ((with_reducible refine Below.alloc ?_ ?_ _); rotate_left; focus (first | (simp; done) | (simp; omega) | omega)) | ((with_reducible refine Below.setCell ?_ ?_ _); rotate_left; focus (first | (simp; done) | (simp; omega) | omega))))
    rintro e w1 ⟨rfl, hb⟩
    have HB : Hid (Below w.heap.size w _) := below_step (by repeat (first | (with_reducible exact Below.refl _ _) | (with_reducible exact Below.refl _ _) | (with_reducible apply Below.drew) | (with_reducible apply below_alloc) | ((with_reducible refine Below.alloc ?_ ?_ _); rotate_left; focus (first | (simp; done) | (simp; omega) | omega)) | ((with_reducible refine Below.setCell ?_ ?_ _); rotate_left; focus (first | (simp; done) | (simp; omega) | omega)))) hb
    clear hb
    go_wp2_with fail
    go_ret2
    exact ⟨rfl, HB.out⟩

theorem refStrFar_any {v : Value} {s : Str} {w : World} {x y : Int} (n k : Int) (h : StrR w v s) (hu : farS s n k = (x, y)) :
    Calls Try.prog 13 #[v, .int .i64 n, .int .i64 k] w fun e w' => e = .returned (.tuple #[.int .i64 x, .int .i64 y]) ∧ Below w.heap.size w w' := by
  have HS := Lib.hid h
  obtain ⟨a, cap, b, nc, cc, rfl, _, hR⟩ := h.shape
  have RR := Lib.hid hR
  obtain ⟨nt, hnt⟩ : ∃ nt, nt = s.tops.length := ⟨_, rfl⟩
  rw [← hnt] at HS ⊢
  by_cases hm : mayS s
  · rw [farS, if_pos hm] at hu
    injection hu with hx hy
    have HG := Lib.hid (show ∀ W, RowsR W (.slice b nc cc) s.coms → Calls Try.prog 40 #[.slice b nc cc, .int .i64 n, .int .i64 k] W fun e w' => e = .returned (.tuple #[.int .i64 x, .int .i64 y]) ∧ Below W.heap.size W w' from fun W hW => by
      have := refGet_any n k hW
      rw [hx, hy] at this
      refine this.mono ?_
      rintro e w' ⟨rfl, rfl⟩
      exact ⟨rfl, Below.refl _ _⟩)
    have HM := Lib.hid (show true = decide (mayS s) from (decide_eq_true hm).symm)
    clear h hR hnt hm hx hy
    go_enter Try.func13, Try.ntmps13
    go_wp2_with fail
    refine Calls.mono (refStrMay_any ?_ HM.out) ?_
    · exact HS.out.below (by repeat (first | (with_reducible exact Below.refl _ _) | (with_reducible exact Below.refl _ _) | (with_reducible apply Below.drew) | (with_reducible apply below_alloc) | ((with_reducible refine Below.alloc ?_ ?_ _); rotate_left; focus (first | (simp; done) | (simp; omega) | omega)) | ((with_reducible refine Below.setCell ?_ ?_ _); rotate_left; focus (first | (simp; done) | (simp; omega) | omega))))
    rintro e w1 ⟨rfl, hb⟩
    have HB : Hid (Below w.heap.size w _) := below_step (by repeat (first | (with_reducible exact Below.refl _ _) | (with_reducible exact Below.refl _ _) | (with_reducible apply Below.drew) | (with_reducible apply below_alloc) | ((with_reducible refine Below.alloc ?_ ?_ _); rotate_left; focus (first | (simp; done) | (simp; omega) | omega)) | ((with_reducible refine Below.setCell ?_ ?_ _); rotate_left; focus (first | (simp; done) | (simp; omega) | omega)))) hb
    have P : Blk _ (w.heap.size) _ _ := Blk.step (by repeat (first | ((with_reducible apply Blk.new); focus (first | rfl | (simp; done) | (simp; omega))) | (with_reducible apply Blk.drew) | (with_reducible apply Blk.alloc) | (with_reducible apply Blk.set_) | ((with_reducible apply Blk.far); rotate_left; focus (first | (simp; done) | (simp; omega) | omega)))) hb
    obtain ⟨p0, p1, pz⟩ := cells2 P
    have pl := Blk.lt P
    have HP := Lib.hid P
    clear P
    clear hb
    go_wp2_with fail
    refine Calls.mono (HG.out _ (RR.out.below HB.out)) ?_
    rintro e w2 ⟨rfl, hb⟩
    replace HB : Hid (Below w.heap.size w _) := below_step (by repeat (first | (with_reducible exact HB.out) | (with_reducible exact Below.refl _ _) | (with_reducible apply Below.drew) | (with_reducible apply below_alloc) | ((with_reducible refine Below.alloc ?_ ?_ _); rotate_left; focus (first | (simp; done) | (simp; omega) | omega)) | ((with_reducible refine Below.setCell ?_ ?_ _); rotate_left; focus (first | (simp; done) | (simp; omega) | omega)))) hb
    clear hb
    go_wp2_with fail
    go_ret2
    exact ⟨rfl, HB.out⟩
  · rw [farS, if_neg hm] at hu
    cases hu
    have HM := Lib.hid (show false = decide (mayS s) from (decide_eq_false hm).symm)
    clear h hR hnt hm
    go_enter Try.func13, Try.ntmps13
    go_wp2_with fail
    refine Calls.mono (refStrMay_any ?_ HM.out) ?_
    · exact HS.out.below (by repeat (first | (with_reducible exact Below.refl _ _) | (with_reducible exact Below.refl _ _) | (with_reducible apply Below.drew) | (with_reducible apply below_alloc) | ((with_reducible refine Below.alloc ?_ ?_ _); rotate_left; focus (first | (simp; done) | (simp; omega) | omega)) | ((with_reducible refine Below.setCell ?_ ?_ _); rotate_left; focus (first | (simp; done) | (simp; omega) | omega))))
    rintro e w1 ⟨rfl, hb⟩
    have HB : Hid (Below w.heap.size w _) := below_step (by repeat (first | (with_reducible exact Below.refl _ _) | (with_reducible exact Below.refl _ _) | (with_reducible apply Below.drew) | (with_reducible apply below_alloc) | ((with_reducible refine Below.alloc ?_ ?_ _); rotate_left; focus (first | (simp; done) | (simp; omega) | omega)) | ((with_reducible refine Below.setCell ?_ ?_ _); rotate_left; focus (first | (simp; done) | (simp; omega) | omega)))) hb
    clear hb
    go_wp2_with fail
    go_ret2
    exact ⟨rfl, HB.out⟩

set_option maxRecDepth 100000 in
theorem refStrFetch_any {v : Value} {s : Str} {w : World} {x : Ent} {y : Int} (n o : Int) (h : StrR w v s) (hu : fetchS s n o = (x, y)) :
    Calls Try.prog 11 #[v, .int .i64 n, .int .i64 o] w (EntEnd x y w) := by
  have HS := Lib.hid h
  obtain ⟨a, cap, b, nc, cc, rfl, hT, _⟩ := h.shape
  obtain ⟨nt, hnt⟩ : ∃ nt, nt = s.tops.length := ⟨_, rfl⟩
  rw [← hnt] at HS hT ⊢
  by_cases ha : askS s n = 0
  · rw [fetchS, if_pos ha] at hu
    have HF := Lib.hid hu
    have HA := Lib.hid ha
    obtain ⟨hm, h0, h1⟩ := askS_zero.1 ha
    have h4 := hm.1.1
    obtain rfl : nt = 4 := by omega
    obtain ⟨⟨-, hcap, hmx⟩, g, off, rfl, hat⟩ := StrR.top hT (i := n) h0 (by omega)
    rw [show s.tops.getD n.toNat default = topN s n from rfl] at hat
    obtain ⟨t, ht⟩ : ∃ t, t = topN s n := ⟨_, rfl⟩
    rw [← ht] at hat HF
    unfold maxLen at hmx
    have HAT := Lib.hid hat
    clear h hT hnt ha hm h4 hu ht hat
    go_enter Try.func11, Try.ntmps11
    go_wp2_with fail
    refine Calls.mono (refStrAsked_any n ?_ HA.out) ?_
    · exact HS.out.below (by repeat (first | (with_reducible exact Below.refl _ _) | (with_reducible exact Below.refl _ _) | (with_reducible apply Below.drew) | (with_reducible apply below_alloc) | ((with_reducible refine Below.alloc ?_ ?_ _); rotate_left; focus (first | (simp; done) | (simp; omega) | omega)) | ((with_reducible refine Below.setCell ?_ ?_ _); rotate_left; focus (first | (simp; done) | (simp; omega) | omega))))
    rintro e w1 ⟨rfl, hb⟩
    have HB : Hid (Below w.heap.size w _) := below_step (by repeat (first | (with_reducible exact Below.refl _ _) | (with_reducible exact Below.refl _ _) | (with_reducible apply Below.drew) | (with_reducible apply below_alloc) | ((with_reducible refine Below.alloc ?_ ?_ _); rotate_left; focus (first | (simp; done) | (simp; omega) | omega)) | ((with_reducible refine Below.setCell ?_ ?_ _); rotate_left; focus (first | (simp; done) | (simp; omega) | omega)))) hb
    have P : Blk _ (w.heap.size) _ _ := Blk.step (by repeat (first | ((with_reducible apply Blk.new); focus (first | rfl | (simp; done) | (simp; omega))) | (with_reducible apply Blk.drew) | (with_reducible apply Blk.alloc) | (with_reducible apply Blk.set_) | ((with_reducible apply Blk.far); rotate_left; focus (first | (simp; done) | (simp; omega) | omega)))) hb
    obtain ⟨p0, p1, pz⟩ := cells2 P
    have pl := Blk.lt P
    have HP := Lib.hid P
    clear P
    have R : Blk _ (w.heap.size + 1) _ _ := Blk.step (by repeat (first | ((with_reducible apply Blk.new); focus (first | rfl | (simp; done) | (simp; omega))) | (with_reducible apply Blk.drew) | (with_reducible apply Blk.alloc) | (with_reducible apply Blk.set_) | ((with_reducible apply Blk.far); rotate_left; focus (first | (simp; done) | (simp; omega) | omega)))) hb
    obtain ⟨r0, r1, r2, r3, rz⟩ := cells4 R
    have rl := Blk.lt R
    have HR := Lib.hid R
    clear R
    obtain ⟨ea, ecap, ⟨⟨⟨c0, c1⟩, c2⟩, c3⟩, hTT⟩ := HAT.out.keep HB.out
    have T := Lib.hid hTT
    clear hb hTT
    go_wp2_with fail
    refine Calls.mono (refFetch_any o ?_ HF.out) ?_
    · exact T.out.below (by repeat (first | (with_reducible exact Below.refl _ _) | (with_reducible exact Below.refl _ _) | (with_reducible apply Below.drew) | (with_reducible apply below_alloc) | ((with_reducible refine Below.alloc ?_ ?_ _); rotate_left; focus (first | (simp; done) | (simp; omega) | omega)) | ((with_reducible refine Below.setCell ?_ ?_ _); rotate_left; focus (first | (simp; done) | (simp; omega) | omega))))
    rintro e w2 ⟨rfl, hb⟩
    replace HB : Hid (Below w.heap.size w _) := below_step (by repeat (first | (with_reducible exact HB.out) | (with_reducible exact Below.refl _ _) | (with_reducible apply Below.drew) | (with_reducible apply below_alloc) | ((with_reducible refine Below.alloc ?_ ?_ _); rotate_left; focus (first | (simp; done) | (simp; omega) | omega)) | ((with_reducible refine Below.setCell ?_ ?_ _); rotate_left; focus (first | (simp; done) | (simp; omega) | omega)))) hb
    clear r0 r1 r2 r3 rz rl
    replace HR : Hid (Blk _ (w.heap.size + 1) _ _) := Blk.step (by repeat (first | (with_reducible exact HR.out) | ((with_reducible apply Blk.new); focus (first | rfl | (simp; done) | (simp; omega))) | (with_reducible apply Blk.drew) | (with_reducible apply Blk.alloc) | (with_reducible apply Blk.set_) | ((with_reducible apply Blk.far); rotate_left; focus (first | (simp; done) | (simp; omega) | omega)))) hb
    obtain ⟨r0, r1, r2, r3, rz⟩ := cells4 HR.out
    have rl := Blk.lt HR.out
    clear hb
    go_wp2_with fail
    refine bodyPost_ret (v := .tuple #[.agg #[.int .i64 x.off, .int .i64 x.id, .string x.key, .string x.body], .int .i64 y]) (by simp [results, Try.results11, go_sem, r0, r1, r2, r3]) rfl ⟨rfl, ?_⟩
    repeat (first | (with_reducible exact HB.out) | (with_reducible exact Below.refl _ _) | (with_reducible apply Below.drew) | (with_reducible apply below_alloc) | ((with_reducible refine Below.alloc ?_ ?_ _); rotate_left; focus (first | (simp; done) | (simp; omega) | omega)) | ((with_reducible refine Below.setCell ?_ ?_ _); rotate_left; focus (first | (simp; done) | (simp; omega) | omega)))
  · rw [fetchS, if_neg ha] at hu
    injection hu with hx hy
    subst hx
    have HA := Lib.hid hy
    have hd : (y != 0) = true := by rw [← hy]; simpa using ha
    clear h hT hnt ha hy
    go_enter Try.func11, Try.ntmps11
    go_wp2_with fail
    refine Calls.mono (refStrAsked_any n ?_ HA.out) ?_
    · exact HS.out.below (by repeat (first | (with_reducible exact Below.refl _ _) | (with_reducible exact Below.refl _ _) | (with_reducible apply Below.drew) | (with_reducible apply below_alloc) | ((with_reducible refine Below.alloc ?_ ?_ _); rotate_left; focus (first | (simp; done) | (simp; omega) | omega)) | ((with_reducible refine Below.setCell ?_ ?_ _); rotate_left; focus (first | (simp; done) | (simp; omega) | omega))))
    rintro e w1 ⟨rfl, hb⟩
    have HB : Hid (Below w.heap.size w _) := below_step (by repeat (first | (with_reducible exact Below.refl _ _) | (with_reducible exact Below.refl _ _) | (with_reducible apply Below.drew) | (with_reducible apply below_alloc) | ((with_reducible refine Below.alloc ?_ ?_ _); rotate_left; focus (first | (simp; done) | (simp; omega) | omega)) | ((with_reducible refine Below.setCell ?_ ?_ _); rotate_left; focus (first | (simp; done) | (simp; omega) | omega)))) hb
    have R : Blk _ (w.heap.size + 1) _ _ := Blk.step (by repeat (first | ((with_reducible apply Blk.new); focus (first | rfl | (simp; done) | (simp; omega))) | (with_reducible apply Blk.drew) | (with_reducible apply Blk.alloc) | (with_reducible apply Blk.set_) | ((with_reducible apply Blk.far); rotate_left; focus (first | (simp; done) | (simp; omega) | omega)))) hb
    obtain ⟨r0, r1, r2, r3, rz⟩ := cells4 R
    have rl := Blk.lt R
    have HR := Lib.hid R
    clear R
    clear hb
    go_wp2_with fail
    refine bodyPost_ret (v := .tuple #[.agg #[.int .i64 0, .int .i64 0, .string ⟨#[]⟩, .string ⟨#[]⟩], .int .i64 y]) (by simp [results, Try.results11, go_sem, r0, r1, r2, r3]) rfl ⟨rfl, ?_⟩
    repeat (first | (with_reducible exact HB.out) | (with_reducible exact Below.refl _ _) | (with_reducible apply Below.drew) | (with_reducible apply below_alloc) | ((with_reducible refine Below.alloc ?_ ?_ _); rotate_left; focus (first | (simp; done) | (simp; omega) | omega)) | ((with_reducible refine Below.setCell ?_ ?_ _); rotate_left; focus (first | (simp; done) | (simp; omega) | omega)))
end Go.Proofs.Ytblgmjbajnkcdaa
