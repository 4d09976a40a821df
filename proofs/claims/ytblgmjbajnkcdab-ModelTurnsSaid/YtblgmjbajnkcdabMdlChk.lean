/-
  model.Check: may a model be. No condition but that the model reads and its rows are few.
-/
import Derived.Test.YtblgmjbajnkcdabMdlStr
import Derived.Test.YtblgmjbajnkcdabMdlShp
namespace Go.Proofs.Ytblgmjbajnkcdab
open Go.RowKit

def plBad (p : Pl) : Bool := !decide (shapedP p)
theorem plBad_any {v : Value} {p : Pl} {w : World} (h : PlR w v p) : Calls Try.prog 58 #[v] w fun e w' => e = .returned (.bool (plBad p)) ∧ Below w.heap.size w w' := by
  have PP := Lib.hid h
  obtain ⟨a, cap, rfl, _⟩ := h
  obtain ⟨q, hq⟩ : ∃ q, q = decide (shapedP p) := ⟨_, rfl⟩
  have K : Hid (∀ (W : World) {v : Value}, PlR W v p → Calls Try.prog 59 #[v] W fun e w' => e = .returned (.bool q) ∧ Below W.heap.size W w') := Lib.hid (fun W v hW => by rw [hq]; exact shaped_any hW)
  rw [plBad, ← hq]
  clear hq
  go_enter Try.func58, Try.ntmps58
  go_wp2_with fail
  refine Calls.mono (K.out _ ?_) ?_
  · exact PP.out.below (by repeat (first | (with_reducible exact Below.refl _ _) | (with_reducible exact Below.refl _ _) | (with_reducible apply Below.drew) | (with_reducible apply below_alloc) | ((with_reducible refine Below.alloc ?_ ?_ _); rotate_left; focus (first | (simp; done) | (simp; omega) | omega)) | ((with_reducible refine Below.setCell ?_ ?_ _); rotate_left; focus (first | (simp; done) | (simp; omega) | omega))))
  rintro e w1 ⟨rfl, hb⟩
  have HB : Hid (Below w.heap.size w _) := below_step (by repeat (first | (with_reducible exact Below.refl _ _) | (with_reducible exact Below.refl _ _) | (with_reducible apply Below.drew) | (with_reducible apply below_alloc) | ((with_reducible refine Below.alloc ?_ ?_ _); rotate_left; focus (first | (simp; done) | (simp; omega) | omega)) | ((with_reducible refine Below.setCell ?_ ?_ _); rotate_left; focus (first | (simp; done) | (simp; omega) | omega)))) hb
  clear hb
  go_wp2_with fail
  go_ret
  exact ⟨rfl, HB.out⟩

def SomePl (l : List Pl) (w : World) (e : Ending) (w' : World) : Prop := (∃ i : Int, e = .returned (.int .i64 i) ∧ (if l.any plBad then 0 ≤ i else i = -1)) ∧ Below w.heap.size w w'

set_option maxHeartbeats 1000000 in
set_option maxRecDepth 100000 in
theorem idxPl_any {v : Value} {l : List Pl} {w : World} (h : PlsR w v l) :
    Calls Try.prog 90 #[v, .func (.func 58) #[] #[]] w (SomePl l w) := by
  obtain ⟨a, cap, rfl, hcap, hm, _, hd⟩ := h.shape
  unfold maxLen at hm
  have HD := Lib.hid hd
  obtain ⟨n, hn⟩ : ∃ n, n = l.length := ⟨_, rfl⟩
  rw [← hn] at HD hcap ⊢
  have HN := Lib.hid hn
  have hn' : (n : Int) ≤ 9223372036854775807 := by omega
  clear hd h hn
  go_enter Try.func90, Try.ntmps90
  go_wp2_with fail
  go_loopg [5, 8] n (fun g _ i wr => ∃ k : Nat, k ≤ n ∧ g = n - k ∧ i = .int .i64 (k : Int) ∧ Hid (∀ j, j < k → plBad (l.getD j default) = false) ∧ Hid (Below w.heap.size w wr))
  case atStart => exact ⟨0, Nat.zero_le _, rfl, rfl, (fun j hj => absurd hj (Nat.not_lt_zero _)), Below.refl _ _⟩
  case round =>
    obtain ⟨k, hk, rfl, rfl, hno, HB⟩ := hrel
    by_cases hlt : k < n
    · have hk0 : (0 : Int) ≤ (k : Int) := by omega
      have hk1 : (k : Int) < (n : Int) := by omega
      obtain ⟨bb, off, ha, hat⟩ := HD.out (by omega)
      subst ha
      obtain ⟨x, hx⟩ : ∃ x, x = l.getD k default := ⟨_, rfl⟩
      have hat2 := hat k hlt
      rw [← hx] at hat2
      obtain ⟨ea, ecap, ⟨⟨c0, c1⟩, c2⟩, hT⟩ := hat2.keep HB.out
      have T := Lib.hid hT
      have HX := Lib.hid hx
      obtain ⟨q, hq⟩ : ∃ q, q = plBad x := ⟨_, rfl⟩
      have L : ∀ W, PlR W (.agg #[.slice ea x.all.length ecap, .int .i64 x.base, .int .i64 x.mark]) x → Calls Try.prog 58 #[.agg #[.slice ea x.all.length ecap, .int .i64 x.base, .int .i64 x.mark]] W fun e w' => e = .returned (.bool q) ∧ Below W.heap.size W w' := fun W hW => by rw [hq]; exact plBad_any hW
      have HL := Lib.hid L
      have HQ := Lib.hid hq
      clear hat hat2 hT hx hq L
      cases q
      all_goals
        go_wp2_with fail
        refine Calls.mono (HL.out _ ?_) ?_
        · exact T.out.below (by repeat (first | (with_reducible exact Below.refl _ _) | (with_reducible exact Below.refl _ _) | (with_reducible apply Below.drew) | (with_reducible apply below_alloc) | ((with_reducible refine Below.alloc ?_ ?_ _); rotate_left; focus (first | (simp; done) | (simp; omega) | omega)) | ((with_reducible refine Below.setCell ?_ ?_ _); rotate_left; focus (first | (simp; done) | (simp; omega) | omega))))
        rintro e w1 ⟨rfl, hb⟩
        replace HB : Hid (Below w.heap.size w _) := below_step (by repeat (first | (with_reducible exact HB.out) | (with_reducible exact Below.refl _ _) | (with_reducible apply Below.drew) | (with_reducible apply below_alloc) | ((with_reducible refine Below.alloc ?_ ?_ _); rotate_left; focus (first | (simp; done) | (simp; omega) | omega)) | ((with_reducible refine Below.setCell ?_ ?_ _); rotate_left; focus (first | (simp; done) | (simp; omega) | omega)))) hb
        clear hb c0 c1 c2
        go_wp2_with fail
      · go_roundg (n - (k + 1))
        case measure => omega
        case rel =>
          refine ⟨k + 1, by omega, rfl, by go_num, fun j hj => ?_, HB⟩
          by_cases hjk : j < k
          · exact hno.out j hjk
          · obtain rfl : j = k := by omega
            rw [← HX.out, ← HQ.out]
      · go_ret
        refine ⟨⟨k, rfl, ?_⟩, HB.out⟩
        have : l.any plBad = true := by
          rw [List.any_eq_true]
          have h1 := HN.out
          refine ⟨x, ?_, HQ.out.symm⟩
          rw [HX.out, show l.getD k default = l[k]'(by omega) by simp [List.getD, show k < l.length by omega]]
          exact List.getElem_mem _
        rw [if_pos this]
        omega
    · obtain rfl : k = n := by omega
      have hlt' : ¬ (k : Int) < (k : Int) := by omega
      go_wp2_with fail
      go_ret
      refine ⟨⟨-1, rfl, ?_⟩, HB.out⟩
      have : l.any plBad = false := by
        rw [List.any_eq_false]
        intro y hy
        obtain ⟨j, hj, rfl⟩ := List.getElem_of_mem hy
        have h1 := HN.out
        have h2 := hno.out j (by omega)
        simpa [List.getD, hj] using h2
      rw [this]
      rfl

theorem contPl_any {v : Value} {l : List Pl} {w : World} (h : PlsR w v l) :
    Calls Try.prog 57 #[v, .func (.func 58) #[] #[]] w fun e w' => e = .returned (.bool (l.any plBad)) ∧ Below w.heap.size w w' := by
  have K := Lib.hid (idxPl_any h)
  obtain ⟨a, cap, rfl, _⟩ := h.shape
  obtain ⟨c, hc⟩ : ∃ c, c = l.any plBad := ⟨_, rfl⟩
  rw [← hc]
  have HC := Lib.hid hc
  obtain ⟨n, hn⟩ : ∃ n, n = l.length := ⟨_, rfl⟩
  rw [← hn] at K ⊢
  clear hc h hn
  go_enter Try.func57, Try.ntmps57
  go_wp2_with fail
  refine K.out.mono ?_
  rintro e w1 ⟨⟨i, rfl, hi⟩, hb⟩
  rw [← HC.out] at hi
  cases c
  · simp only [Bool.false_eq_true, if_false] at hi
    subst hi
    go_wp2_with fail
    go_ret
    exact ⟨rfl, hb⟩
  · rw [if_pos rfl] at hi
    go_wp2_with fail
    go_ret
    exact ⟨rfl, hb⟩


theorem entP_mem {p : Pl} {x : Ent} (h : x ∈ entP p) : x ∈ p.all := (keepF_sub _ _).subset (List.mem_filter.1 h).1
theorem shaped_ok {p : Pl} (h : shapedP p) {x : Ent} (hx : x ∈ p.all) : Top.okEnt x := by
  obtain ⟨i, hi, rfl⟩ := List.getElem_of_mem hx
  have := (h.1 i hi).2
  rwa [getD_at hi] at this
theorem mdl_keys {m : Mdl} (h : ∀ p ∈ m.tops, shapedP p) : strKeys (streamM m) := fun t ht x hx => by
  obtain ⟨p, hp, rfl⟩ := List.mem_map.1 ht
  have := (shaped_ok (h p hp) (entP_mem hx)).2.2.1
  exact Nat.le_trans this (by unfold maxLen; omega)

set_option maxHeartbeats 4000000 in
set_option maxRecDepth 100000 in
theorem mdlCheck_any {v : Value} {m : Mdl} {w : World} (h : MdlR w v m) (hf : few m.coms) (c : Int) (hc : c = if mayM m then 0 else 8) :
    Calls Try.prog 25 #[v] w fun e w' => e = .returned (.int .i64 c) ∧ Below w.heap.size w w' := by
  have S := Lib.hid h
  have HF := Lib.hid hf
  obtain ⟨a, cap, b, nc, cc, rfl, hT, -⟩ := h.shape
  have TT := Lib.hid hT
  obtain ⟨q, hq⟩ : ∃ q, q = m.tops.any plBad := ⟨_, rfl⟩
  have HQ := Lib.hid hq
  have K := Lib.hid (fun (W : World) (v : Value) (hW : PlsR W v m.tops) => contPl_any hW)
  rw [← hq] at K
  obtain ⟨n, hn⟩ : ∃ n, n = m.tops.length := ⟨_, rfl⟩
  have HN := Lib.hid hn
  rw [← hn] at S TT ⊢
  have HC := Lib.hid hc
  clear h hf hT hq hn hc
  by_cases h4 : 4 < (n : Int)
  · have e : c = 8 := by rw [HC.out, if_neg (fun hm => by have := hm.1.1; have := HN.out; omega)]
    subst e
    go_enter Try.func25, Try.ntmps25
    go_wp2_with fail
    go_ret
    refine ⟨rfl, ?_⟩
    repeat (first | (with_reducible exact Below.refl _ _) | (with_reducible exact Below.refl _ _) | (with_reducible apply Below.drew) | (with_reducible apply below_alloc) | ((with_reducible refine Below.alloc ?_ ?_ _); rotate_left; focus (first | (simp; done) | (simp; omega) | omega)) | ((with_reducible refine Below.setCell ?_ ?_ _); rotate_left; focus (first | (simp; done) | (simp; omega) | omega)))
  · cases q
    · have hs : ∀ p ∈ m.tops, shapedP p := fun p hp => by
        have h1 := List.any_eq_false.1 HQ.out.symm p hp
        simpa [plBad] using h1
      have HSH := Lib.hid hs
      have HC2 := Lib.hid (show c = if mayS (streamM m) then 0 else 8 by
        rw [HC.out]
        by_cases hm : mayM m
        · rw [if_pos hm, if_pos ((mayM_iff hs).2 hm)]
        · rw [if_neg hm, if_neg (fun h => hm ((mayM_iff hs).1 h))])
      have HFF := Lib.hid (show m.tops.length ≤ 1000000 ∧ few m.coms from ⟨by have := HN.out; omega, HF.out⟩)
      clear hs
      go_enter Try.func25, Try.ntmps25
      go_wp2_with fail
      refine Calls.mono (K.out _ _ ?_) ?_
      · exact TT.out.below (by repeat (first | (with_reducible exact Below.refl _ _) | (with_reducible exact Below.refl _ _) | (with_reducible apply Below.drew) | (with_reducible apply below_alloc) | ((with_reducible refine Below.alloc ?_ ?_ _); rotate_left; focus (first | (simp; done) | (simp; omega) | omega)) | ((with_reducible refine Below.setCell ?_ ?_ _); rotate_left; focus (first | (simp; done) | (simp; omega) | omega))))
      rintro e w1 ⟨rfl, hb⟩
      have HB : Hid (Below w.heap.size w _) := below_step (by repeat (first | (with_reducible exact Below.refl _ _) | (with_reducible exact Below.refl _ _) | (with_reducible apply Below.drew) | (with_reducible apply below_alloc) | ((with_reducible refine Below.alloc ?_ ?_ _); rotate_left; focus (first | (simp; done) | (simp; omega) | omega)) | ((with_reducible refine Below.setCell ?_ ?_ _); rotate_left; focus (first | (simp; done) | (simp; omega) | omega)))) hb
      have P : Blk _ (w.heap.size) _ _ := Blk.step (by repeat (first | ((with_reducible apply Blk.new); focus (first | rfl | (simp; done) | (simp; omega))) | (with_reducible apply Blk.drew) | (with_reducible apply Blk.alloc) | (with_reducible apply Blk.set_) | ((with_reducible apply Blk.far); rotate_left; focus (first | (simp; done) | (simp; omega) | omega)))) hb
      obtain ⟨p0, p1, pz⟩ := cells2 P
      have pl := Blk.lt P
      have HP := Lib.hid P
      clear P
      clear hb
      go_wp2_with fail
      refine Calls.mono (streamed_any (m := m) ?_ HSH.out HFF.out) ?_
      · exact S.out.below (by repeat (first | (with_reducible exact HB.out) | (with_reducible exact Below.refl _ _) | (with_reducible apply Below.drew) | (with_reducible apply below_alloc) | ((with_reducible refine Below.alloc ?_ ?_ _); rotate_left; focus (first | (simp; done) | (simp; omega) | omega)) | ((with_reducible refine Below.setCell ?_ ?_ _); rotate_left; focus (first | (simp; done) | (simp; omega) | omega))))
      rintro e w2 ⟨ta, tc, rfl, os, hb⟩
      replace HB : Hid (Below w.heap.size w _) := below_step (by repeat (first | (with_reducible exact HB.out) | (with_reducible exact Below.refl _ _) | (with_reducible apply Below.drew) | (with_reducible apply below_alloc) | ((with_reducible refine Below.alloc ?_ ?_ _); rotate_left; focus (first | (simp; done) | (simp; omega) | omega)) | ((with_reducible refine Below.setCell ?_ ?_ _); rotate_left; focus (first | (simp; done) | (simp; omega) | omega)))) hb
      have SS := Lib.hid os.reads
      clear hb os
      go_wp2_with fail
      refine Calls.mono (strCheck_any SS.out (mdl_keys HSH.out) c HC2.out) ?_
      rintro e w3 ⟨rfl, hb⟩
      replace HB : Hid (Below w.heap.size w _) := below_step (by repeat (first | (with_reducible exact HB.out) | (with_reducible exact Below.refl _ _) | (with_reducible apply Below.drew) | (with_reducible apply below_alloc) | ((with_reducible refine Below.alloc ?_ ?_ _); rotate_left; focus (first | (simp; done) | (simp; omega) | omega)) | ((with_reducible refine Below.setCell ?_ ?_ _); rotate_left; focus (first | (simp; done) | (simp; omega) | omega)))) hb
      clear hb
      go_wp2_with fail
      go_ret
      exact ⟨rfl, HB.out⟩
    · have e : c = 8 := by
        rw [HC.out, if_neg (fun hm => ?_)]
        obtain ⟨p, hp, hb⟩ := List.any_eq_true.1 HQ.out.symm
        simp [plBad] at hb
        exact hb (mayM_shaped hm p hp)
      subst e
      go_enter Try.func25, Try.ntmps25
      go_wp2_with fail
      refine Calls.mono (K.out _ _ ?_) ?_
      · exact TT.out.below (by repeat (first | (with_reducible exact Below.refl _ _) | (with_reducible exact Below.refl _ _) | (with_reducible apply Below.drew) | (with_reducible apply below_alloc) | ((with_reducible refine Below.alloc ?_ ?_ _); rotate_left; focus (first | (simp; done) | (simp; omega) | omega)) | ((with_reducible refine Below.setCell ?_ ?_ _); rotate_left; focus (first | (simp; done) | (simp; omega) | omega))))
      rintro e w1 ⟨rfl, hb⟩
      have HB : Hid (Below w.heap.size w _) := below_step (by repeat (first | (with_reducible exact Below.refl _ _) | (with_reducible exact Below.refl _ _) | (with_reducible apply Below.drew) | (with_reducible apply below_alloc) | ((with_reducible refine Below.alloc ?_ ?_ _); rotate_left; focus (first | (simp; done) | (simp; omega) | omega)) | ((with_reducible refine Below.setCell ?_ ?_ _); rotate_left; focus (first | (simp; done) | (simp; omega) | omega)))) hb
      clear hb
      go_wp2_with fail
      go_ret
      exact ⟨rfl, HB.out⟩
end Go.Proofs.Ytblgmjbajnkcdab
