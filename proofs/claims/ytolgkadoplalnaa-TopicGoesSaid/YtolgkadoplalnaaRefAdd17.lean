/-
  The document's Add and Check. No condition but that the topic reads.
-/
import Derived.Test.YtolgkadoplalnaaAddP
import Derived.Test.YtolgkadoplalnaaMay17
import Derived.Test.YtolgkadoplalnaaRefTwin17
import Derived.Deep.RegionHeld3
namespace Go.Proofs.Ytolgkadoplalnaa
open Go.RowKit

theorem refCheck_any {v : Value} {t : Top} {w : World} {c : Int} (h : TopR w v t) (hc : c = if t.may then 0 else 8) :
    Calls Try.prog 39 #[v] w fun e w' => e = .returned (.int .i64 c) ∧ Below w.heap.size w w' := by
  have T := Lib.hid h
  obtain ⟨a, cap, rfl, hs⟩ := h
  obtain ⟨z, hz⟩ : ∃ z, z = decide t.may := ⟨_, rfl⟩
  have M : ∀ (w' : World), TopR w' (.agg #[.int .i64 t.base, .int .i64 t.next, .int .i64 t.mark, .slice a t.ents.length cap]) t → Calls Try.prog 45 #[.agg #[.int .i64 t.base, .int .i64 t.next, .int .i64 t.mark, .slice a t.ents.length cap]] w' fun e w'' => e = .returned (.bool z) ∧ Below w'.heap.size w' w'' := fun w' h => by rw [hz]; exact may17_any h
  have HM := Lib.hid M
  cases z
  · rw [if_neg (of_decide_eq_false hz.symm)] at hc
    subst hc
    clear M hz hs
    go_enter Try.func39, Try.ntmps39
    go_wp2_with fail
    refine Calls.mono (HM.out _ ?_) ?_
    · exact T.out.below (by repeat (first | (with_reducible exact Below.refl _ _) | (with_reducible exact Below.refl _ _) | (with_reducible apply Below.drew) | (with_reducible apply below_alloc) | ((with_reducible refine Below.alloc ?_ ?_ _); rotate_left; focus (first | (simp; done) | (simp; omega) | omega)) | ((with_reducible refine Below.setCell ?_ ?_ _); rotate_left; focus (first | (simp; done) | (simp; omega) | omega))))
    rintro e w2 ⟨rfl, hb⟩
    have HB : Hid (Below w.heap.size w _) := below_step (by repeat (first | (with_reducible exact Below.refl _ _) | (with_reducible exact Below.refl _ _) | (with_reducible apply Below.drew) | (with_reducible apply below_alloc) | ((with_reducible refine Below.alloc ?_ ?_ _); rotate_left; focus (first | (simp; done) | (simp; omega) | omega)) | ((with_reducible refine Below.setCell ?_ ?_ _); rotate_left; focus (first | (simp; done) | (simp; omega) | omega)))) hb
    go_wp2_with fail
    go_ret
    exact ⟨rfl, HB.out⟩
  · rw [if_pos (of_decide_eq_true hz.symm)] at hc
    subst hc
    clear M hz hs
    go_enter Try.func39, Try.ntmps39
    go_wp2_with fail
    refine Calls.mono (HM.out _ ?_) ?_
    · exact T.out.below (by repeat (first | (with_reducible exact Below.refl _ _) | (with_reducible exact Below.refl _ _) | (with_reducible apply Below.drew) | (with_reducible apply below_alloc) | ((with_reducible refine Below.alloc ?_ ?_ _); rotate_left; focus (first | (simp; done) | (simp; omega) | omega)) | ((with_reducible refine Below.setCell ?_ ?_ _); rotate_left; focus (first | (simp; done) | (simp; omega) | omega))))
    rintro e w2 ⟨rfl, hb⟩
    have HB : Hid (Below w.heap.size w _) := below_step (by repeat (first | (with_reducible exact Below.refl _ _) | (with_reducible exact Below.refl _ _) | (with_reducible apply Below.drew) | (with_reducible apply below_alloc) | ((with_reducible refine Below.alloc ?_ ?_ _); rotate_left; focus (first | (simp; done) | (simp; omega) | omega)) | ((with_reducible refine Below.setCell ?_ ?_ _); rotate_left; focus (first | (simp; done) | (simp; omega) | omega)))) hb
    go_wp2_with fail
    go_ret
    exact ⟨rfl, HB.out⟩

set_option maxHeartbeats 4000000 in
set_option maxRecDepth 100000 in
theorem refAdd_any {v : Value} {t u : Top} {w : World} {x y : Int} (id : Int) (k b : ByteArray) (h : TopR w v t) (hf : addP t id k b = (u, x, y)) :
    Calls Try.prog 36 #[v, .int .i64 id, .string k, .string b] w (TopEnd2 u x y w) := by
  obtain ⟨i0, hi, hz0, hz1, hz2⟩ := info_parts info_ent
  have T := Lib.hid h
  obtain ⟨a, cap, rfl, hs⟩ := h
  obtain ⟨z, hz⟩ : ∃ z, z = decide t.may := ⟨_, rfl⟩
  have M : ∀ (w' : World), TopR w' (.agg #[.int .i64 t.base, .int .i64 t.next, .int .i64 t.mark, .slice a t.ents.length cap]) t → Calls Try.prog 45 #[.agg #[.int .i64 t.base, .int .i64 t.next, .int .i64 t.mark, .slice a t.ents.length cap]] w' fun e w'' => e = .returned (.bool z) ∧ Below w'.heap.size w' w'' := fun w' h => by rw [hz]; exact may17_any h
  have HM := Lib.hid M
  have HZ := Lib.hid hz
  clear M hz hs
  cases z
  · rw [addP, if_neg (of_decide_eq_false HZ.out.symm)] at hf
    cases hf
    go_enter Try.func36, Try.ntmps36
    go_wp2_with fail
    refine Calls.mono (HM.out _ ?_) ?_
    · exact T.out.below (by repeat (first | (with_reducible exact Below.refl _ _) | (with_reducible exact Below.refl _ _) | (with_reducible apply Below.drew) | (with_reducible apply below_alloc) | ((with_reducible refine Below.alloc ?_ ?_ _); rotate_left; focus (first | (simp; done) | (simp; omega) | omega)) | ((with_reducible refine Below.setCell ?_ ?_ _); rotate_left; focus (first | (simp; done) | (simp; omega) | omega))))
    rintro e w2 ⟨rfl, hb⟩
    have HB : Hid (Below w.heap.size w _) := below_step (by repeat (first | (with_reducible exact Below.refl _ _) | (with_reducible exact Below.refl _ _) | (with_reducible apply Below.drew) | (with_reducible apply below_alloc) | ((with_reducible refine Below.alloc ?_ ?_ _); rotate_left; focus (first | (simp; done) | (simp; omega) | omega)) | ((with_reducible refine Below.setCell ?_ ?_ _); rotate_left; focus (first | (simp; done) | (simp; omega) | omega)))) hb
    have R : Blk _ (w.heap.size + 1) _ _ := Blk.step (by repeat (first | ((with_reducible apply Blk.new); focus (first | rfl | (simp; done) | (simp; omega))) | (with_reducible apply Blk.drew) | (with_reducible apply Blk.alloc) | (with_reducible apply Blk.set_) | ((with_reducible apply Blk.far); rotate_left; focus (first | (simp; done) | (simp; omega) | omega)))) hb
    obtain ⟨r0, r1, r2, r3, rz⟩ := cells4 R
    have rl := Blk.lt R
    have HR := Lib.hid R
    clear R
    clear hb
    go_wp2_with fail
    refine bodyPost_ret (v := .tuple #[.agg #[.int .i64 0, .int .i64 0, .int .i64 0, .slice none 0 0], .int .i64 0, .int .i64 8]) (by simp [results, Try.results36, go_sem, r0, r1, r2, r3]) rfl (topEnd2_zero _ _ rfl ?_)
    repeat (first | (with_reducible exact HB.out) | (with_reducible exact Below.refl _ _) | (with_reducible apply Below.drew) | (with_reducible apply below_alloc) | ((with_reducible refine Below.alloc ?_ ?_ _); rotate_left; focus (first | (simp; done) | (simp; omega) | omega)) | ((with_reducible refine Below.setCell ?_ ?_ _); rotate_left; focus (first | (simp; done) | (simp; omega) | omega)))
  · have hm : t.may := of_decide_eq_true HZ.out.symm
    rw [addP, if_pos hm] at hf
    have HL := Lib.hid (show t.ents.length ≤ 200 from hm.1.2.2.2.2.2.2)
    have n0 : 0 ≤ t.next := hm.1.1
    have n1 : t.next ≤ 1073741824 := hm.1.2.1
    clear hm
    by_cases h1 : id < 0 ∨ 6291456 ≤ id
    · rw [if_pos h1] at hf
      cases hf
      rcases h1 with h1 | h1
      all_goals
        go_enter Try.func36, Try.ntmps36
        go_wp2_with fail
        refine Calls.mono (HM.out _ ?_) ?_
        · exact T.out.below (by repeat (first | (with_reducible exact Below.refl _ _) | (with_reducible exact Below.refl _ _) | (with_reducible apply Below.drew) | (with_reducible apply below_alloc) | ((with_reducible refine Below.alloc ?_ ?_ _); rotate_left; focus (first | (simp; done) | (simp; omega) | omega)) | ((with_reducible refine Below.setCell ?_ ?_ _); rotate_left; focus (first | (simp; done) | (simp; omega) | omega))))
        rintro e w2 ⟨rfl, hb⟩
        have HB : Hid (Below w.heap.size w _) := below_step (by repeat (first | (with_reducible exact Below.refl _ _) | (with_reducible exact Below.refl _ _) | (with_reducible apply Below.drew) | (with_reducible apply below_alloc) | ((with_reducible refine Below.alloc ?_ ?_ _); rotate_left; focus (first | (simp; done) | (simp; omega) | omega)) | ((with_reducible refine Below.setCell ?_ ?_ _); rotate_left; focus (first | (simp; done) | (simp; omega) | omega)))) hb
        have R : Blk _ (w.heap.size + 1) _ _ := Blk.step (by repeat (first | ((with_reducible apply Blk.new); focus (first | rfl | (simp; done) | (simp; omega))) | (with_reducible apply Blk.drew) | (with_reducible apply Blk.alloc) | (with_reducible apply Blk.set_) | ((with_reducible apply Blk.far); rotate_left; focus (first | (simp; done) | (simp; omega) | omega)))) hb
        obtain ⟨r0, r1, r2, r3, rz⟩ := cells4 R
        have rl := Blk.lt R
        have HR := Lib.hid R
        clear R
        clear hb
        go_wp2_with fail
        refine bodyPost_ret (v := .tuple #[.agg #[.int .i64 0, .int .i64 0, .int .i64 0, .slice none 0 0], .int .i64 0, .int .i64 2]) (by simp [results, Try.results36, go_sem, r0, r1, r2, r3]) rfl (topEnd2_zero _ _ rfl ?_)
        repeat (first | (with_reducible exact HB.out) | (with_reducible exact Below.refl _ _) | (with_reducible apply Below.drew) | (with_reducible apply below_alloc) | ((with_reducible refine Below.alloc ?_ ?_ _); rotate_left; focus (first | (simp; done) | (simp; omega) | omega)) | ((with_reducible refine Below.setCell ?_ ?_ _); rotate_left; focus (first | (simp; done) | (simp; omega) | omega)))
    · rw [if_neg h1] at hf
      have h1a : 0 ≤ id := by omega
      have h1b : id < 6291456 := by omega
      clear h1
      by_cases h2 : 16 < k.size ∨ 64 < b.size
      · rw [if_pos h2] at hf
        cases hf
        have h3 : (16 : Int) < (k.size : Int) ∨ ((k.size : Int) ≤ 16 ∧ (64 : Int) < (b.size : Int)) := by omega
        clear h2
        rcases h3 with h3 | ⟨h3, h4⟩
        all_goals
          go_enter Try.func36, Try.ntmps36
          go_wp2_with fail
          refine Calls.mono (HM.out _ ?_) ?_
          · exact T.out.below (by repeat (first | (with_reducible exact Below.refl _ _) | (with_reducible exact Below.refl _ _) | (with_reducible apply Below.drew) | (with_reducible apply below_alloc) | ((with_reducible refine Below.alloc ?_ ?_ _); rotate_left; focus (first | (simp; done) | (simp; omega) | omega)) | ((with_reducible refine Below.setCell ?_ ?_ _); rotate_left; focus (first | (simp; done) | (simp; omega) | omega))))
          rintro e w2 ⟨rfl, hb⟩
          have HB : Hid (Below w.heap.size w _) := below_step (by repeat (first | (with_reducible exact Below.refl _ _) | (with_reducible exact Below.refl _ _) | (with_reducible apply Below.drew) | (with_reducible apply below_alloc) | ((with_reducible refine Below.alloc ?_ ?_ _); rotate_left; focus (first | (simp; done) | (simp; omega) | omega)) | ((with_reducible refine Below.setCell ?_ ?_ _); rotate_left; focus (first | (simp; done) | (simp; omega) | omega)))) hb
          have R : Blk _ (w.heap.size + 1) _ _ := Blk.step (by repeat (first | ((with_reducible apply Blk.new); focus (first | rfl | (simp; done) | (simp; omega))) | (with_reducible apply Blk.drew) | (with_reducible apply Blk.alloc) | (with_reducible apply Blk.set_) | ((with_reducible apply Blk.far); rotate_left; focus (first | (simp; done) | (simp; omega) | omega)))) hb
          obtain ⟨r0, r1, r2, r3, rz⟩ := cells4 R
          have rl := Blk.lt R
          have HR := Lib.hid R
          clear R
          clear hb
          go_wp2_with fail
          refine bodyPost_ret (v := .tuple #[.agg #[.int .i64 0, .int .i64 0, .int .i64 0, .slice none 0 0], .int .i64 0, .int .i64 3]) (by simp [results, Try.results36, go_sem, r0, r1, r2, r3]) rfl (topEnd2_zero _ _ rfl ?_)
          repeat (first | (with_reducible exact HB.out) | (with_reducible exact Below.refl _ _) | (with_reducible apply Below.drew) | (with_reducible apply below_alloc) | ((with_reducible refine Below.alloc ?_ ?_ _); rotate_left; focus (first | (simp; done) | (simp; omega) | omega)) | ((with_reducible refine Below.setCell ?_ ?_ _); rotate_left; focus (first | (simp; done) | (simp; omega) | omega)))
      · rw [if_neg h2] at hf
        have h2a : (k.size : Int) ≤ 16 := by omega
        have h2b : (b.size : Int) ≤ 64 := by omega
        clear h2
        by_cases h3 : t.next = 1073741824 ∨ t.ents.length = 200
        · rw [if_pos h3] at hf
          cases hf
          have h4 : (t.next == 1073741824) = true ∨ ((t.next == 1073741824) = false ∧ ((t.ents.length : Int) == 200) = true) := by
            by_cases h5 : t.next = 1073741824
            · exact Or.inl (by simpa using h5)
            · exact Or.inr ⟨by simpa using h5, by have := h3.resolve_left h5; simp; omega⟩
          clear h3
          rcases h4 with h4 | ⟨h4, h5⟩
          all_goals
            go_enter Try.func36, Try.ntmps36
            go_wp2_with fail
            refine Calls.mono (HM.out _ ?_) ?_
            · exact T.out.below (by repeat (first | (with_reducible exact Below.refl _ _) | (with_reducible exact Below.refl _ _) | (with_reducible apply Below.drew) | (with_reducible apply below_alloc) | ((with_reducible refine Below.alloc ?_ ?_ _); rotate_left; focus (first | (simp; done) | (simp; omega) | omega)) | ((with_reducible refine Below.setCell ?_ ?_ _); rotate_left; focus (first | (simp; done) | (simp; omega) | omega))))
            rintro e w2 ⟨rfl, hb⟩
            have HB : Hid (Below w.heap.size w _) := below_step (by repeat (first | (with_reducible exact Below.refl _ _) | (with_reducible exact Below.refl _ _) | (with_reducible apply Below.drew) | (with_reducible apply below_alloc) | ((with_reducible refine Below.alloc ?_ ?_ _); rotate_left; focus (first | (simp; done) | (simp; omega) | omega)) | ((with_reducible refine Below.setCell ?_ ?_ _); rotate_left; focus (first | (simp; done) | (simp; omega) | omega)))) hb
            have A : Blk _ (w.heap.size) _ _ := Blk.step (by repeat (first | ((with_reducible apply Blk.new); focus (first | rfl | (simp; done) | (simp; omega))) | (with_reducible apply Blk.drew) | (with_reducible apply Blk.alloc) | (with_reducible apply Blk.set_) | ((with_reducible apply Blk.far); rotate_left; focus (first | (simp; done) | (simp; omega) | omega)))) hb
            obtain ⟨a0, a1, a2, a3, az⟩ := cells4 A
            have al := Blk.lt A
            have HA := Lib.hid A
            clear A
            have R : Blk _ (w.heap.size + 1) _ _ := Blk.step (by repeat (first | ((with_reducible apply Blk.new); focus (first | rfl | (simp; done) | (simp; omega))) | (with_reducible apply Blk.drew) | (with_reducible apply Blk.alloc) | (with_reducible apply Blk.set_) | ((with_reducible apply Blk.far); rotate_left; focus (first | (simp; done) | (simp; omega) | omega)))) hb
            obtain ⟨r0, r1, r2, r3, rz⟩ := cells4 R
            have rl := Blk.lt R
            have HR := Lib.hid R
            clear R
            clear hb
            go_wp2_with fail
            refine bodyPost_ret (v := .tuple #[.agg #[.int .i64 0, .int .i64 0, .int .i64 0, .slice none 0 0], .int .i64 0, .int .i64 9]) (by simp [results, Try.results36, go_sem, r0, r1, r2, r3]) rfl (topEnd2_zero _ _ rfl ?_)
            repeat (first | (with_reducible exact HB.out) | (with_reducible exact Below.refl _ _) | (with_reducible apply Below.drew) | (with_reducible apply below_alloc) | ((with_reducible refine Below.alloc ?_ ?_ _); rotate_left; focus (first | (simp; done) | (simp; omega) | omega)) | ((with_reducible refine Below.setCell ?_ ?_ _); rotate_left; focus (first | (simp; done) | (simp; omega) | omega)))
        · rw [if_neg h3] at hf
          cases hf
          have h4 : (t.next == 1073741824) = false := by simp; omega
          have h5 : ((t.ents.length : Int) == 200) = false := by simp; omega
          have HL2 := Lib.hid (show t.ents.length ≤ 1000000 by have := HL.out; omega)
          have n2 : t.next < 1073741824 := by omega
          clear h3
          go_enter Try.func36, Try.ntmps36
          go_wp2_with fail
          refine Calls.mono (HM.out _ ?_) ?_
          · exact T.out.below (by repeat (first | (with_reducible exact Below.refl _ _) | (with_reducible exact Below.refl _ _) | (with_reducible apply Below.drew) | (with_reducible apply below_alloc) | ((with_reducible refine Below.alloc ?_ ?_ _); rotate_left; focus (first | (simp; done) | (simp; omega) | omega)) | ((with_reducible refine Below.setCell ?_ ?_ _); rotate_left; focus (first | (simp; done) | (simp; omega) | omega))))
          rintro e w2 ⟨rfl, hb⟩
          have HB : Hid (Below w.heap.size w _) := below_step (by repeat (first | (with_reducible exact Below.refl _ _) | (with_reducible exact Below.refl _ _) | (with_reducible apply Below.drew) | (with_reducible apply below_alloc) | ((with_reducible refine Below.alloc ?_ ?_ _); rotate_left; focus (first | (simp; done) | (simp; omega) | omega)) | ((with_reducible refine Below.setCell ?_ ?_ _); rotate_left; focus (first | (simp; done) | (simp; omega) | omega)))) hb
          have A : Blk _ (w.heap.size) _ _ := Blk.step (by repeat (first | ((with_reducible apply Blk.new); focus (first | rfl | (simp; done) | (simp; omega))) | (with_reducible apply Blk.drew) | (with_reducible apply Blk.alloc) | (with_reducible apply Blk.set_) | ((with_reducible apply Blk.far); rotate_left; focus (first | (simp; done) | (simp; omega) | omega)))) hb
          obtain ⟨a0, a1, a2, a3, az⟩ := cells4 A
          have al := Blk.lt A
          have HA := Lib.hid A
          clear A
          have R : Blk _ (w.heap.size + 1) _ _ := Blk.step (by repeat (first | ((with_reducible apply Blk.new); focus (first | rfl | (simp; done) | (simp; omega))) | (with_reducible apply Blk.drew) | (with_reducible apply Blk.alloc) | (with_reducible apply Blk.set_) | ((with_reducible apply Blk.far); rotate_left; focus (first | (simp; done) | (simp; omega) | omega)))) hb
          obtain ⟨r0, r1, r2, r3, rz⟩ := cells4 R
          have rl := Blk.lt R
          have HR := Lib.hid R
          clear R
          replace T : Hid (TopR _ _ _) := topR_step T.out (by repeat (first | (with_reducible exact Below.refl _ _) | (with_reducible exact Below.refl _ _) | (with_reducible apply Below.drew) | (with_reducible apply below_alloc) | ((with_reducible refine Below.alloc ?_ ?_ _); rotate_left; focus (first | (simp; done) | (simp; omega) | omega)) | ((with_reducible refine Below.setCell ?_ ?_ _); rotate_left; focus (first | (simp; done) | (simp; omega) | omega)))) hb
          clear hb
          go_wp2_with fail
          refine Calls.mono (refTwin17_any ?_ HL2.out) ?_
          · exact T.out.below (by repeat (first | (with_reducible exact Below.refl _ _) | (with_reducible exact Below.refl _ _) | (with_reducible apply Below.drew) | (with_reducible apply below_alloc) | ((with_reducible refine Below.alloc ?_ ?_ _); rotate_left; focus (first | (simp; done) | (simp; omega) | omega)) | ((with_reducible refine Below.setCell ?_ ?_ _); rotate_left; focus (first | (simp; done) | (simp; omega) | omega))))
          rintro e w3 ⟨a4, cap4, rfl, o4, hb⟩
          have s4 : w.heap.size + 1 < w2.heap.size := rl
          replace HB : Hid (Below w.heap.size w _) := below_step (by repeat (first | (with_reducible exact HB.out) | (with_reducible exact Below.refl _ _) | (with_reducible apply Below.drew) | (with_reducible apply below_alloc) | ((with_reducible refine Below.alloc ?_ ?_ _); rotate_left; focus (first | (simp; done) | (simp; omega) | omega)) | ((with_reducible refine Below.setCell ?_ ?_ _); rotate_left; focus (first | (simp; done) | (simp; omega) | omega)))) hb
          clear a0 a1 a2 a3 az al
          replace HA : Hid (Blk _ (w.heap.size) _ _) := Blk.step (by repeat (first | (with_reducible exact HA.out) | ((with_reducible apply Blk.new); focus (first | rfl | (simp; done) | (simp; omega))) | (with_reducible apply Blk.drew) | (with_reducible apply Blk.alloc) | (with_reducible apply Blk.set_) | ((with_reducible apply Blk.far); rotate_left; focus (first | (simp; done) | (simp; omega) | omega)))) hb
          obtain ⟨a0, a1, a2, a3, az⟩ := cells4 HA.out
          have al := Blk.lt HA.out
          clear r0 r1 r2 r3 rz rl
          replace HR : Hid (Blk _ (w.heap.size + 1) _ _) := Blk.step (by repeat (first | (with_reducible exact HR.out) | ((with_reducible apply Blk.new); focus (first | rfl | (simp; done) | (simp; omega))) | (with_reducible apply Blk.drew) | (with_reducible apply Blk.alloc) | (with_reducible apply Blk.set_) | ((with_reducible apply Blk.far); rotate_left; focus (first | (simp; done) | (simp; omega) | omega)))) hb
          obtain ⟨r0, r1, r2, r3, rz⟩ := cells4 HR.out
          have rl := Blk.lt HR.out
          have O4 := Lib.hid o4
          have s5 : w2.heap.size ≤ w3.heap.size := hb.size
          clear hb o4 h4 h5
          go_wp2_with (at_builtin; go_must (refine wpList_append_own _ rfl _ _ 22 rfl w2.heap.size 38 i0 _ 4 48 Try.underlying22 hi hz0 hz1 hz2 rfl (by decide) _ _ _ rfl (own_alloc (own_alloc O4.out)) ⟨w3.heap.size + 1, 0, none⟩ 1 1 (entCells ⟨t.next, id, k, b⟩) rfl rfl ?_ (by intro v hv; simp [entCells] at hv; rcases hv with rfl | rfl | rfl | rfl <;> rfl) (by have := HL.out; unfold maxLen; omega) (by have := HL.out; omega) (by simp; omega) ?_))
          · exact news_ent ⟨t.next, id, k, b⟩ (by simp)
          · intro v' w5 hown hgrow _
            have OW : OwnE w5 w2.heap.size v' (t.ents ++ [⟨t.next, id, k, b⟩]) := by
              show w5.ownsRow _ _ _ _ _ _
              simpa [List.flatMap_append] using hown
            obtain ⟨a5, cap5, hv5⟩ := own_shape OW
            subst hv5
            have O5 := Lib.hid OW
            have HAA : Hid (Blk _ (w.heap.size) _ _) := Blk.grown (by repeat (first | (with_reducible exact HA.out) | ((with_reducible apply Blk.new); focus (first | rfl | (simp; done) | (simp; omega))) | (with_reducible apply Blk.drew) | (with_reducible apply Blk.alloc) | (with_reducible apply Blk.set_) | ((with_reducible apply Blk.far); rotate_left; focus (first | (simp; done) | (simp; omega) | omega)))) hgrow (own_ne O4.out (by omega))
            obtain ⟨aa0, aa1, aa2, aa3, aaz⟩ := cells4 HAA.out
            have aal := Blk.lt HAA.out
            have HRR : Hid (Blk _ (w.heap.size + 1) _ _) := Blk.grown (by repeat (first | (with_reducible exact HR.out) | ((with_reducible apply Blk.new); focus (first | rfl | (simp; done) | (simp; omega))) | (with_reducible apply Blk.drew) | (with_reducible apply Blk.alloc) | (with_reducible apply Blk.set_) | ((with_reducible apply Blk.far); rotate_left; focus (first | (simp; done) | (simp; omega) | omega)))) hgrow (own_ne O4.out (by omega))
            obtain ⟨rr0, rr1, rr2, rr3, rrz⟩ := cells4 HRR.out
            have rrl := Blk.lt HRR.out
            have own_lt : (Value.slice a4 t.ents.length cap4).ownBlock ≠ some w3.heap.size := fun e => by have := (O4.out.lt _ e).2; omega
            have HTT : Hid (Blk w5 w3.heap.size 24 [.int .i64 t.base, .int .i64 t.next, .int .i64 t.mark, .slice a4 t.ents.length cap4]) := Blk.grown (Blk.alloc (Blk.new rfl) _) hgrow own_lt
            obtain ⟨tt0, tt1, tt2, tt3, ttz⟩ := cells4 HTT.out
            have ttl := Blk.lt HTT.out
            have HB5 : Hid (Below w.heap.size w w5) := below_grown (by repeat (first | (with_reducible exact HB.out) | (with_reducible exact Below.refl _ _) | (with_reducible apply Below.drew) | (with_reducible apply below_alloc) | ((with_reducible refine Below.alloc ?_ ?_ _); rotate_left; focus (first | (simp; done) | (simp; omega) | omega)) | ((with_reducible refine Below.setCell ?_ ?_ _); rotate_left; focus (first | (simp; done) | (simp; omega) | omega)))) hgrow (own_alloc (own_alloc O4.out)) (by omega)
            have d1 : ¬ w3.heap.size = w.heap.size + 1 := by omega
            have d2 : ¬ w.heap.size + 1 = w3.heap.size := by omega
            have d3 : ¬ w3.heap.size = w.heap.size := by omega
            have d4 : ¬ w.heap.size = w3.heap.size := by omega
            have wn : IntKind.i64.wrap (t.next + 1) = t.next + 1 := IntWalk.i64_in _ (by omega)
            clear hown OW hgrow a0 a1 a2 a3 az r0 r1 r2 r3 rz own_lt
            go_wp2_with fail
            refine at_code (fun W => Blk W w3.heap.size 24 [.int .i64 t.base, .int .i64 (t.next + 1), .int .i64 t.mark, .slice a5 (t.ents ++ [(⟨t.next, id, k, b⟩ : Ent)]).length cap5] ∧ Blk W (w.heap.size + 1) 24 [.int .i64 0, .int .i64 0, .int .i64 0, .slice none 0 0] ∧ Blk W w.heap.size 24 [.int .i64 t.base, .int .i64 t.next, .int .i64 t.mark, .slice a t.ents.length cap] ∧ Below w.heap.size w W ∧ OwnE W w2.heap.size (.slice a5 (t.ents ++ [(⟨t.next, id, k, b⟩ : Ent)]).length cap5) (t.ents ++ [⟨t.next, id, k, b⟩])) ⟨?_, ?_, ?_, ?_, ?_⟩ ?_
            · have h := (HTT.out.set_ 3 (.slice a5 (t.ents ++ [(⟨t.next, id, k, b⟩ : Ent)]).length cap5)).set_ 1 (.int .i64 (t.next + 1))
              simpa using h
            · repeat (first | (with_reducible exact HRR.out) | ((with_reducible apply Blk.new); focus (first | rfl | (simp; done) | (simp; omega))) | (with_reducible apply Blk.drew) | (with_reducible apply Blk.alloc) | (with_reducible apply Blk.set_) | ((with_reducible apply Blk.far); rotate_left; focus (first | (simp; done) | (simp; omega) | omega)))
            · repeat (first | (with_reducible exact HAA.out) | ((with_reducible apply Blk.new); focus (first | rfl | (simp; done) | (simp; omega))) | (with_reducible apply Blk.drew) | (with_reducible apply Blk.alloc) | (with_reducible apply Blk.set_) | ((with_reducible apply Blk.far); rotate_left; focus (first | (simp; done) | (simp; omega) | omega)))
            · repeat (first | (with_reducible exact HB5.out) | (with_reducible exact Below.refl _ _) | (with_reducible apply Below.drew) | (with_reducible apply below_alloc) | ((with_reducible refine Below.alloc ?_ ?_ _); rotate_left; focus (first | (simp; done) | (simp; omega) | omega)) | ((with_reducible refine Below.setCell ?_ ?_ _); rotate_left; focus (first | (simp; done) | (simp; omega) | omega)))
            · have hne := own_blk_ne O5.out HTT.out (by decide)
              rw [List.length_append, List.length_singleton] at hne ⊢
              have h := O5.out
              rw [List.length_append, List.length_singleton] at h
              exact own_set' (own_set' h hne) hne
            clear HAA HRR HTT HB5 O5 HA HR HB O4
            rintro W ⟨q1, q2, q3, q4, q5⟩
            obtain ⟨a0, a1, a2, a3, az⟩ := cells4 q1
            obtain ⟨r0, r1, r2, r3, rz⟩ := cells4 q2
            have x1 := q3.cell 1
            simp only [List.getElem?_cons_zero, List.getElem?_cons_succ] at x1
            have Q4 := Lib.hid q4
            have Q5 := Lib.hid q5
            clear q1 q2 q3 q4 q5 aa0 aa1 aa2 aa3 aaz rr0 rr1 rr2 rr3 rrz tt0 tt1 tt2 tt3 ttz T
            go_region_held3 (fun W => W.cell? ⟨w3.heap.size, 0, none⟩ = some (.int .i64 t.base) ∧ W.cell? ⟨w3.heap.size, 1, none⟩ = some (.int .i64 (t.next + 1)) ∧ W.cell? ⟨w3.heap.size, 2, none⟩ = some (.int .i64 t.mark) ∧
                W.cell? ⟨w3.heap.size, 3, none⟩ = some (.slice a5 (t.ents ++ [(⟨t.next, id, k, b⟩ : Ent)]).length cap5) ∧ W.cell? ⟨w.heap.size, 1, none⟩ = some (.int .i64 t.next)) (go_keep) (fail)
            go_wp2_with fail
            refine bodyPost_ret (v := .tuple #[.agg #[.int .i64 t.base, .int .i64 (t.next + 1), .int .i64 t.mark, .slice a5 (t.ents ++ [(⟨t.next, id, k, b⟩ : Ent)]).length cap5], .int .i64 t.next, .int .i64 0]) (by simp [results, Try.results36, go_sem, r0, r1, r2, r3]) rfl ⟨a5, cap5, rfl, ?_, ?_⟩
            · refine own_base (B := w2.heap.size) ?_ (by omega)
              repeat (first | (with_reducible exact Q5.out) | (with_reducible apply own_drew) | (with_reducible apply own_alloc) | ((with_reducible apply own_set); rotate_left; focus (first | (simp; done) | (simp; omega) | omega)))
            · repeat (first | (with_reducible exact Q4.out) | (with_reducible exact Below.refl _ _) | (with_reducible apply Below.drew) | (with_reducible apply below_alloc) | ((with_reducible refine Below.alloc ?_ ?_ _); rotate_left; focus (first | (simp; done) | (simp; omega) | omega)) | ((with_reducible refine Below.setCell ?_ ?_ _); rotate_left; focus (first | (simp; done) | (simp; omega) | omega)))
end Go.Proofs.Ytolgkadoplalnaa
