/-
  The document's Trim and Room. No condition but that the topic reads.
-/
import Derived.Test.YtolgkadoplalnaaMay17
import Derived.Test.YtolgkadoplalnaaTrimP
import Derived.Test.YtolgkadoplalnaaSteps
import Derived.Deep.RegionHeld3
namespace Go.Proofs.Ytolgkadoplalnaa
open Go.RowKit

set_option maxHeartbeats 1000000 in
theorem refRoom_any {v : Value} {t : Top} {w : World} {x y : Int} (h : TopR w v t) (hu : roomP t = (x, y)) :
    Calls Try.prog 21 #[v] w fun e w' => e = .returned (.tuple #[.int .i64 x, .int .i64 y]) ∧ Below w.heap.size w w' := by
  have K := fun (o : Obj) => may17_any (h.below ((Below.refl _ _).alloc (Nat.le_refl _) o))
  obtain ⟨a, cap, rfl, hs⟩ := h
  by_cases hm : t.may
  · rw [decide_eq_true hm] at K
    have HK := Lib.hid K
    have q := hm.1
    obtain ⟨q1, q2, _, _, _, _, q7⟩ := q
    obtain ⟨n, hn⟩ : ∃ n, n = t.ents.length := ⟨_, rfl⟩
    rw [← hn] at HK q7 ⊢
    have hx : x = min (200 - (n : Int)) (1073741824 - t.next) ∧ y = 0 := by
      rw [roomP, if_pos hm, ← hn] at hu
      cases hu
      exact ⟨rfl, rfl⟩
    obtain ⟨hx, rfl⟩ := hx
    obtain ⟨p, hp⟩ : ∃ p, p = 200 - (n : Int) := ⟨_, rfl⟩
    obtain ⟨r, hr⟩ : ∃ r, r = 1073741824 - t.next := ⟨_, rfl⟩
    have w1 : IntKind.i64.wrap (200 - (n : Int)) = p := by rw [hp]; exact IntWalk.i64_in _ (by omega)
    have w2 : IntKind.i64.wrap (1073741824 - t.next) = r := by rw [hr]; exact IntWalk.i64_in _ (by omega)
    rw [← hp, ← hr] at hx
    have HX := Lib.hid hx
    clear K hm hu hn hx hp hr hs
    by_cases hrp : r < p
    all_goals
      go_enter Try.func21, Try.ntmps21
      go_wp2_with fail
      refine (HK.out _).mono ?_
      rintro e w2 ⟨rfl, hb⟩
      have HB2 : Hid (Below w.heap.size w _) := below_step (by repeat (first | (with_reducible exact Below.refl _ _) | (with_reducible exact Below.refl _ _) | (with_reducible apply Below.drew) | (with_reducible apply below_alloc) | ((with_reducible refine Below.alloc ?_ ?_ _); rotate_left; focus (first | (simp; done) | (simp; omega) | omega)) | ((with_reducible refine Below.setCell ?_ ?_ _); rotate_left; focus (first | (simp; done) | (simp; omega) | omega)))) hb
      have A2 : Blk _ (w.heap.size) _ _ := Blk.step (by repeat (first | ((with_reducible apply Blk.new); focus (first | rfl | (simp; done) | (simp; omega))) | (with_reducible apply Blk.drew) | (with_reducible apply Blk.alloc) | (with_reducible apply Blk.set_) | ((with_reducible apply Blk.far); rotate_left; focus (first | (simp; done) | (simp; omega) | omega)))) hb
      obtain ⟨a20, a21, a22, a23, a2z⟩ := cells4 A2
      have a2l := Blk.lt A2
      have HA2 := Lib.hid A2
      clear A2
      clear hb
      go_wp2_with fail
      go_ret2
      refine ⟨?_, HB2.out⟩
      rw [HX.out]
      first | (rw [show min p r = r from by omega]; done) | (rw [show min p r = p from by omega]; done) | (rw [show min p r = r from by omega]; rfl) | (rw [show min p r = p from by omega]; rfl)
  · rw [decide_eq_false hm] at K
    have HK := Lib.hid K
    rw [roomP, if_neg hm] at hu
    cases hu
    clear K hm hs
    go_enter Try.func21, Try.ntmps21
    go_wp2_with fail
    refine (HK.out _).mono ?_
    rintro e w2 ⟨rfl, hb⟩
    have HB2 : Hid (Below w.heap.size w _) := below_step (by repeat (first | (with_reducible exact Below.refl _ _) | (with_reducible exact Below.refl _ _) | (with_reducible apply Below.drew) | (with_reducible apply below_alloc) | ((with_reducible refine Below.alloc ?_ ?_ _); rotate_left; focus (first | (simp; done) | (simp; omega) | omega)) | ((with_reducible refine Below.setCell ?_ ?_ _); rotate_left; focus (first | (simp; done) | (simp; omega) | omega)))) hb
    clear hb
    go_wp2_with fail
    go_ret2
    exact ⟨rfl, HB2.out⟩

set_option maxHeartbeats 2000000 in
set_option maxRecDepth 100000 in
theorem refTrim_any {v : Value} {t u : Top} {w : World} {x : Int} (to : Int) (h : TopR w v t) (hu : trimP t to = (u, x)) :
    Calls Try.prog 19 #[v, .int .i64 to] w (TopEnd1 u x w) := by
  have K := fun (o o' : Obj) => may17_any (h.below (((Below.refl _ _).alloc (Nat.le_refl _) o).alloc (by simp) o'))
  obtain ⟨a, cap, rfl, hs⟩ := h
  by_cases hm : t.may
  · rw [decide_eq_true hm] at K
    have HK := Lib.hid K
    have HL := Lib.hid (show t.ents.length ≤ 1000000 by have := hm.1.2.2.2.2.2.2; omega)
    have HS := Lib.hid hs
    by_cases ht : to < 0 ∨ 1073741824 < to
    · rw [trimP_arg hm ht] at hu
      cases hu
      clear K hs hm
      rcases ht with ht | ht
      all_goals
        go_enter Try.func19, Try.ntmps19
        go_wp2_with fail
        refine (HK.out _ _).mono ?_
        rintro e w2 ⟨rfl, hb⟩
        have HB2 : Hid (Below w.heap.size w _) := below_step (by repeat (first | (with_reducible exact Below.refl _ _) | (with_reducible exact Below.refl _ _) | (with_reducible apply Below.drew) | (with_reducible apply below_alloc) | ((with_reducible refine Below.alloc ?_ ?_ _); rotate_left; focus (first | (simp; done) | (simp; omega) | omega)) | ((with_reducible refine Below.setCell ?_ ?_ _); rotate_left; focus (first | (simp; done) | (simp; omega) | omega)))) hb
        have R2 : Blk _ (w.heap.size + 1) _ _ := Blk.step (by repeat (first | ((with_reducible apply Blk.new); focus (first | rfl | (simp; done) | (simp; omega))) | (with_reducible apply Blk.drew) | (with_reducible apply Blk.alloc) | (with_reducible apply Blk.set_) | ((with_reducible apply Blk.far); rotate_left; focus (first | (simp; done) | (simp; omega) | omega)))) hb
        obtain ⟨r20, r21, r22, r23, r2z⟩ := cells4 R2
        have r2l := Blk.lt R2
        have HR2 := Lib.hid R2
        clear R2
        clear hb
        go_wp2_with fail
        refine bodyPost_ret (v := .tuple #[.agg #[.int .i64 0, .int .i64 0, .int .i64 0, .slice none 0 0], .int .i64 2]) (by simp [results, Try.results19, go_sem, r20, r21, r22, r23]) rfl (topEnd1_zero _ rfl ?_)
        repeat (first | (with_reducible exact HB2.out) | (with_reducible exact Below.refl _ _) | (with_reducible apply Below.drew) | (with_reducible apply below_alloc) | ((with_reducible refine Below.alloc ?_ ?_ _); rotate_left; focus (first | (simp; done) | (simp; omega) | omega)) | ((with_reducible refine Below.setCell ?_ ?_ _); rotate_left; focus (first | (simp; done) | (simp; omega) | omega)))
    · rw [trimP_yes hm ht] at hu
      cases hu
      have h1 : 0 ≤ to := by omega
      have h2 : to ≤ 1073741824 := by omega
      have hbn : t.base ≤ t.next := hm.1.2.2.2.1
      clear K hs hm ht
      obtain ⟨m, hmd⟩ : ∃ m, m = trimTo t to := ⟨_, rfl⟩
      have HM := Lib.hid hmd
      rw [trimTo] at hmd
      rw [← HM.out]
      have cases3 : (t.next < to ∧ ¬ t.next < t.base ∧ m = t.next) ∨ (¬ t.next < to ∧ to < t.base ∧ m = t.base) ∨ (¬ t.next < to ∧ ¬ to < t.base ∧ m = to) := by omega
      clear hmd
      rcases cases3 with ⟨g1, g2, rfl⟩ | ⟨g1, g2, rfl⟩ | ⟨g1, g2, rfl⟩
      all_goals
        go_enter Try.func19, Try.ntmps19
        go_wp2_with fail
        refine (HK.out _ _).mono ?_
        rintro e w2 ⟨rfl, hb⟩
        have HB2 : Hid (Below w.heap.size w _) := below_step (by repeat (first | (with_reducible exact Below.refl _ _) | (with_reducible exact Below.refl _ _) | (with_reducible apply Below.drew) | (with_reducible apply below_alloc) | ((with_reducible refine Below.alloc ?_ ?_ _); rotate_left; focus (first | (simp; done) | (simp; omega) | omega)) | ((with_reducible refine Below.setCell ?_ ?_ _); rotate_left; focus (first | (simp; done) | (simp; omega) | omega)))) hb
        have s2 : w.heap.size + 2 ≤ w2.heap.size := by have := (hb).size; first | omega | (simp at this; omega)
        have A2 : Blk _ (w.heap.size) _ _ := Blk.step (by repeat (first | ((with_reducible apply Blk.new); focus (first | rfl | (simp; done) | (simp; omega))) | (with_reducible apply Blk.drew) | (with_reducible apply Blk.alloc) | (with_reducible apply Blk.set_) | ((with_reducible apply Blk.far); rotate_left; focus (first | (simp; done) | (simp; omega) | omega)))) hb
        obtain ⟨a20, a21, a22, a23, a2z⟩ := cells4 A2
        have a2l := Blk.lt A2
        have HA2 := Lib.hid A2
        clear A2
        have R2 : Blk _ (w.heap.size + 1) _ _ := Blk.step (by repeat (first | ((with_reducible apply Blk.new); focus (first | rfl | (simp; done) | (simp; omega))) | (with_reducible apply Blk.drew) | (with_reducible apply Blk.alloc) | (with_reducible apply Blk.set_) | ((with_reducible apply Blk.far); rotate_left; focus (first | (simp; done) | (simp; omega) | omega)))) hb
        obtain ⟨r20, r21, r22, r23, r2z⟩ := cells4 R2
        have r2l := Blk.lt R2
        have HR2 := Lib.hid R2
        clear R2
        clear hb
        go_wp2_with fail
        have S2 := Lib.hid (HS.out.below entCells_len HB2.out)
        go_region_held3 (fun W => W.cell? ⟨w.heap.size, 1, none⟩ = some (.int .i64 t.next) ∧ W.cell? ⟨w.heap.size, 2, none⟩ = some (.int .i64 t.mark) ∧ W.cell? ⟨w.heap.size, 3, none⟩ = some (.slice a t.ents.length cap))
          (first | (refine ⟨?_, ?_, ?_⟩ <;> exact keep hb (by assumption)) | go_keep)
          ((go_at_call 46; refine (from18_any _ (HS.out.below entCells_len (by repeat (first | (with_reducible exact HB2.out) | (with_reducible exact Below.refl _ _) | (with_reducible apply Below.drew) | (with_reducible apply below_alloc) | ((with_reducible refine Below.alloc ?_ ?_ _); rotate_left; focus (first | (simp; done) | (simp; omega) | omega)) | ((with_reducible refine Below.setCell ?_ ?_ _); rotate_left; focus (first | (simp; done) | (simp; omega) | omega))))) HL.out).mono ?_; rintro e w3 ⟨a3, cap3, rfl, o3, hb⟩; have HR3 := Lib.hid (Blk.step (Blk.drew HR2.out) hb); obtain ⟨r30, r31, r32, r33, r3z⟩ := cells4 HR3.out))
        have O3 := Lib.hid o3
        have HB3 : Hid (Below w.heap.size w w3) := below_step (by repeat (first | (with_reducible exact HB2.out) | (with_reducible exact Below.refl _ _) | (with_reducible apply Below.drew) | (with_reducible apply below_alloc) | ((with_reducible refine Below.alloc ?_ ?_ _); rotate_left; focus (first | (simp; done) | (simp; omega) | omega)) | ((with_reducible refine Below.setCell ?_ ?_ _); rotate_left; focus (first | (simp; done) | (simp; omega) | omega)))) hb
        clear o3 hb
        go_wp2_with fail
      · refine bodyPost_ret (v := .tuple #[.agg #[.int .i64 t.next, .int .i64 t.next, .int .i64 t.mark, .slice a3 (fromE t.next t.ents).length cap3], .int .i64 0]) (by simp [results, Try.results19, go_sem, r30, r31, r32, r33]) rfl ⟨a3, cap3, rfl, ?_, ?_⟩
        · refine own_base (B := w2.heap.size) ?_ (by omega)
          repeat (first | (with_reducible exact O3.out) | (with_reducible apply own_drew) | (with_reducible apply own_alloc) | ((with_reducible apply own_set); rotate_left; focus (first | (simp; done) | (simp; omega) | omega)))
          exact O3.out
        · repeat (first | (with_reducible exact HB3.out) | (with_reducible exact Below.refl _ _) | (with_reducible apply Below.drew) | (with_reducible apply below_alloc) | ((with_reducible refine Below.alloc ?_ ?_ _); rotate_left; focus (first | (simp; done) | (simp; omega) | omega)) | ((with_reducible refine Below.setCell ?_ ?_ _); rotate_left; focus (first | (simp; done) | (simp; omega) | omega)))
      · refine bodyPost_ret (v := .tuple #[.agg #[.int .i64 t.base, .int .i64 t.next, .int .i64 t.mark, .slice a3 (fromE t.base t.ents).length cap3], .int .i64 0]) (by simp [results, Try.results19, go_sem, r30, r31, r32, r33]) rfl ⟨a3, cap3, rfl, ?_, ?_⟩
        · refine own_base (B := w2.heap.size) ?_ (by omega)
          repeat (first | (with_reducible exact O3.out) | (with_reducible apply own_drew) | (with_reducible apply own_alloc) | ((with_reducible apply own_set); rotate_left; focus (first | (simp; done) | (simp; omega) | omega)))
          exact O3.out
        · repeat (first | (with_reducible exact HB3.out) | (with_reducible exact Below.refl _ _) | (with_reducible apply Below.drew) | (with_reducible apply below_alloc) | ((with_reducible refine Below.alloc ?_ ?_ _); rotate_left; focus (first | (simp; done) | (simp; omega) | omega)) | ((with_reducible refine Below.setCell ?_ ?_ _); rotate_left; focus (first | (simp; done) | (simp; omega) | omega)))
      · refine bodyPost_ret (v := .tuple #[.agg #[.int .i64 m, .int .i64 t.next, .int .i64 t.mark, .slice a3 (fromE m t.ents).length cap3], .int .i64 0]) (by simp [results, Try.results19, go_sem, r30, r31, r32, r33]) rfl ⟨a3, cap3, rfl, ?_, ?_⟩
        · refine own_base (B := w2.heap.size) ?_ (by omega)
          repeat (first | (with_reducible exact O3.out) | (with_reducible apply own_drew) | (with_reducible apply own_alloc) | ((with_reducible apply own_set); rotate_left; focus (first | (simp; done) | (simp; omega) | omega)))
          exact O3.out
        · repeat (first | (with_reducible exact HB3.out) | (with_reducible exact Below.refl _ _) | (with_reducible apply Below.drew) | (with_reducible apply below_alloc) | ((with_reducible refine Below.alloc ?_ ?_ _); rotate_left; focus (first | (simp; done) | (simp; omega) | omega)) | ((with_reducible refine Below.setCell ?_ ?_ _); rotate_left; focus (first | (simp; done) | (simp; omega) | omega)))
  · rw [decide_eq_false hm] at K
    have HK := Lib.hid K
    rw [trimP_bad hm] at hu
    cases hu
    clear K hm hs
    go_enter Try.func19, Try.ntmps19
    go_wp2_with fail
    refine (HK.out _ _).mono ?_
    rintro e w2 ⟨rfl, hb⟩
    have HB2 : Hid (Below w.heap.size w _) := below_step (by repeat (first | (with_reducible exact Below.refl _ _) | (with_reducible exact Below.refl _ _) | (with_reducible apply Below.drew) | (with_reducible apply below_alloc) | ((with_reducible refine Below.alloc ?_ ?_ _); rotate_left; focus (first | (simp; done) | (simp; omega) | omega)) | ((with_reducible refine Below.setCell ?_ ?_ _); rotate_left; focus (first | (simp; done) | (simp; omega) | omega)))) hb
    have R2 : Blk _ (w.heap.size + 1) _ _ := Blk.step (by repeat (first | ((with_reducible apply Blk.new); focus (first | rfl | (simp; done) | (simp; omega))) | (with_reducible apply Blk.drew) | (with_reducible apply Blk.alloc) | (with_reducible apply Blk.set_) | ((with_reducible apply Blk.far); rotate_left; focus (first | (simp; done) | (simp; omega) | omega)))) hb
    obtain ⟨r20, r21, r22, r23, r2z⟩ := cells4 R2
    have r2l := Blk.lt R2
    have HR2 := Lib.hid R2
    clear R2
    clear hb
    go_wp2_with fail
    refine bodyPost_ret (v := .tuple #[.agg #[.int .i64 0, .int .i64 0, .int .i64 0, .slice none 0 0], .int .i64 8]) (by simp [results, Try.results19, go_sem, r20, r21, r22, r23]) rfl (topEnd1_zero _ rfl ?_)
    repeat (first | (with_reducible exact HB2.out) | (with_reducible exact Below.refl _ _) | (with_reducible apply Below.drew) | (with_reducible apply below_alloc) | ((with_reducible refine Below.alloc ?_ ?_ _); rotate_left; focus (first | (simp; done) | (simp; omega) | omega)) | ((with_reducible refine Below.setCell ?_ ?_ _); rotate_left; focus (first | (simp; done) | (simp; omega) | omega)))
end Go.Proofs.Ytolgkadoplalnaa
