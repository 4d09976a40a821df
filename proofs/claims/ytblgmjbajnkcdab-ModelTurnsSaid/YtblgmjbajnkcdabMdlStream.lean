/-
  model.Stream: the stream that a model stands for, or the error.
-/
import Derived.Test.YtblgmjbajnkcdabMdlStr
import Derived.Test.YtblgmjbajnkcdabMdlChk
namespace Go.Proofs.Ytblgmjbajnkcdab
open Go.RowKit

def streamE (m : Mdl) : Str × Int := if mayM m then (streamM m, 0) else (Str.zero, 8)

set_option maxHeartbeats 4000000 in
set_option maxRecDepth 100000 in
theorem mdlStream_any {v : Value} {m : Mdl} {w : World} {u : Str} {x : Int} (h : MdlR w v m) (hf : few m.coms) (hu : streamE m = (u, x)) :
    Calls Try.prog 21 #[v] w (DoEnd u x w) := by
  have S := Lib.hid h
  have HF := Lib.hid hf
  obtain ⟨a, cap, b, nc, cc, rfl, -, -⟩ := h.shape
  by_cases hm : mayM m
  · rw [streamE, if_pos hm] at hu
    cases hu
    have HC := Lib.hid (show (0 : Int) = if mayM m then 0 else 8 by rw [if_pos hm])
    have HSH := Lib.hid (mayM_shaped hm)
    have HT := Lib.hid (show m.tops.length ≤ 1000000 ∧ few m.coms from ⟨by have := hm.1.1; omega, hf⟩)
    clear h hf hm
    go_enter Try.func21, Try.ntmps21
    go_wp2_with fail
    refine Calls.mono (mdlCheck_any ?_ HF.out 0 HC.out) ?_
    · exact S.out.below (by repeat (first | (with_reducible exact Below.refl _ _) | (with_reducible exact Below.refl _ _) | (with_reducible apply Below.drew) | (with_reducible apply below_alloc) | ((with_reducible refine Below.alloc ?_ ?_ _); rotate_left; focus (first | (simp; done) | (simp; omega) | omega)) | ((with_reducible refine Below.setCell ?_ ?_ _); rotate_left; focus (first | (simp; done) | (simp; omega) | omega))))
    rintro e w1 ⟨rfl, hb⟩
    have HB : Hid (Below w.heap.size w _) := below_step (by repeat (first | (with_reducible exact Below.refl _ _) | (with_reducible exact Below.refl _ _) | (with_reducible apply Below.drew) | (with_reducible apply below_alloc) | ((with_reducible refine Below.alloc ?_ ?_ _); rotate_left; focus (first | (simp; done) | (simp; omega) | omega)) | ((with_reducible refine Below.setCell ?_ ?_ _); rotate_left; focus (first | (simp; done) | (simp; omega) | omega)))) hb
    have P : Blk _ (w.heap.size) _ _ := Blk.step (by repeat (first | ((with_reducible apply Blk.new); focus (first | rfl | (simp; done) | (simp; omega))) | (with_reducible apply Blk.drew) | (with_reducible apply Blk.alloc) | (with_reducible apply Blk.set_) | ((with_reducible apply Blk.far); rotate_left; focus (first | (simp; done) | (simp; omega) | omega)))) hb
    obtain ⟨p0, p1, pz⟩ := cells2 P
    have pl := Blk.lt P
    have HP := Lib.hid P
    clear P
    have R : Blk _ (w.heap.size + 1) _ _ := Blk.step (by repeat (first | ((with_reducible apply Blk.new); focus (first | rfl | (simp; done) | (simp; omega))) | (with_reducible apply Blk.drew) | (with_reducible apply Blk.alloc) | (with_reducible apply Blk.set_) | ((with_reducible apply Blk.far); rotate_left; focus (first | (simp; done) | (simp; omega) | omega)))) hb
    obtain ⟨r0, r1, rz⟩ := cells2 R
    have rl := Blk.lt R
    have HR := Lib.hid R
    clear R
    replace S : Hid (MdlR _ _ _) := mdlR_step S.out (by repeat (first | (with_reducible exact Below.refl _ _) | (with_reducible exact Below.refl _ _) | (with_reducible apply Below.drew) | (with_reducible apply below_alloc) | ((with_reducible refine Below.alloc ?_ ?_ _); rotate_left; focus (first | (simp; done) | (simp; omega) | omega)) | ((with_reducible refine Below.setCell ?_ ?_ _); rotate_left; focus (first | (simp; done) | (simp; omega) | omega)))) hb
    have s1 : w.heap.size + 2 ≤ w1.heap.size := rl
    clear hb
    go_wp2_with fail
    refine Calls.mono (streamed_any ?_ HSH.out HT.out) ?_
    · exact S.out.below (by repeat (first | (with_reducible exact Below.refl _ _) | (with_reducible exact Below.refl _ _) | (with_reducible apply Below.drew) | (with_reducible apply below_alloc) | ((with_reducible refine Below.alloc ?_ ?_ _); rotate_left; focus (first | (simp; done) | (simp; omega) | omega)) | ((with_reducible refine Below.setCell ?_ ?_ _); rotate_left; focus (first | (simp; done) | (simp; omega) | omega))))
    rintro e w2 ⟨ta, tc, rfl, os, hb⟩
    obtain ⟨a6, cap6, b6, nc6, cc6, ev, -, -⟩ := os.reads.shape
    cases ev
    replace HB : Hid (Below w.heap.size w _) := below_step (by repeat (first | (with_reducible exact HB.out) | (with_reducible exact Below.refl _ _) | (with_reducible apply Below.drew) | (with_reducible apply below_alloc) | ((with_reducible refine Below.alloc ?_ ?_ _); rotate_left; focus (first | (simp; done) | (simp; omega) | omega)) | ((with_reducible refine Below.setCell ?_ ?_ _); rotate_left; focus (first | (simp; done) | (simp; omega) | omega)))) hb
    clear p0 p1 pz pl
    replace HP : Hid (Blk _ (w.heap.size) _ _) := Blk.step (by repeat (first | (with_reducible exact HP.out) | ((with_reducible apply Blk.new); focus (first | rfl | (simp; done) | (simp; omega))) | (with_reducible apply Blk.drew) | (with_reducible apply Blk.alloc) | (with_reducible apply Blk.set_) | ((with_reducible apply Blk.far); rotate_left; focus (first | (simp; done) | (simp; omega) | omega)))) hb
    obtain ⟨p0, p1, pz⟩ := cells2 HP.out
    have pl := Blk.lt HP.out
    clear r0 r1 rz rl
    replace HR : Hid (Blk _ (w.heap.size + 1) _ _) := Blk.step (by repeat (first | (with_reducible exact HR.out) | ((with_reducible apply Blk.new); focus (first | rfl | (simp; done) | (simp; omega))) | (with_reducible apply Blk.drew) | (with_reducible apply Blk.alloc) | (with_reducible apply Blk.set_) | ((with_reducible apply Blk.far); rotate_left; focus (first | (simp; done) | (simp; omega) | omega)))) hb
    obtain ⟨r0, r1, rz⟩ := cells2 HR.out
    have rl := Blk.lt HR.out
    have OS : Hid (OwnS w2 (w.heap.size + 2) _ (streamM m)) := Lib.hid (os.le (by first | omega | (simp; omega)))
    clear hb os
    go_wp2_with fail
    obtain ⟨t0, t1, -⟩ := cells2 ((HR.out.set_ 0 (.slice a6 (streamM m).tops.length cap6)).set_ 1 (.slice b6 nc6 cc6))
    refine bodyPost_ret (v := .tuple #[.agg #[.slice a6 (streamM m).tops.length cap6, .slice b6 nc6 cc6], .int .i64 0]) (by simp [results, Try.results21, go_sem, t0, t1]) rfl ⟨_, _, rfl, ?_, ?_⟩
    · exact ((OS.out.le (by omega)).blk HR.out (by decide) (by decide) (by decide) (by decide)).blk (HR.out.set_ 0 _) (by decide) (by decide) (by decide) (by decide)
    · exact (HB.out.setCell (p := ⟨w.heap.size + 1, 0, none⟩) (by simp) _).setCell (p := ⟨w.heap.size + 1, 1, none⟩) (by simp) _
  · rw [streamE, if_neg hm] at hu
    cases hu
    have HC := Lib.hid (show (8 : Int) = if mayM m then 0 else 8 by rw [if_neg hm])
    clear h hf hm
    go_enter Try.func21, Try.ntmps21
    go_wp2_with fail
    refine Calls.mono (mdlCheck_any ?_ HF.out 8 HC.out) ?_
    · exact S.out.below (by repeat (first | (with_reducible exact Below.refl _ _) | (with_reducible exact Below.refl _ _) | (with_reducible apply Below.drew) | (with_reducible apply below_alloc) | ((with_reducible refine Below.alloc ?_ ?_ _); rotate_left; focus (first | (simp; done) | (simp; omega) | omega)) | ((with_reducible refine Below.setCell ?_ ?_ _); rotate_left; focus (first | (simp; done) | (simp; omega) | omega))))
    rintro e w1 ⟨rfl, hb⟩
    have HB : Hid (Below w.heap.size w _) := below_step (by repeat (first | (with_reducible exact Below.refl _ _) | (with_reducible exact Below.refl _ _) | (with_reducible apply Below.drew) | (with_reducible apply below_alloc) | ((with_reducible refine Below.alloc ?_ ?_ _); rotate_left; focus (first | (simp; done) | (simp; omega) | omega)) | ((with_reducible refine Below.setCell ?_ ?_ _); rotate_left; focus (first | (simp; done) | (simp; omega) | omega)))) hb
    have R : Blk _ (w.heap.size + 1) _ _ := Blk.step (by repeat (first | ((with_reducible apply Blk.new); focus (first | rfl | (simp; done) | (simp; omega))) | (with_reducible apply Blk.drew) | (with_reducible apply Blk.alloc) | (with_reducible apply Blk.set_) | ((with_reducible apply Blk.far); rotate_left; focus (first | (simp; done) | (simp; omega) | omega)))) hb
    obtain ⟨r0, r1, rz⟩ := cells2 R
    have rl := Blk.lt R
    have HR := Lib.hid R
    clear R
    clear hb
    go_wp2_with fail
    obtain ⟨t0, t1, -⟩ := cells2 ((HR.out.set_ 0 (.slice none 0 0)).set_ 1 (.slice none 0 0))
    refine bodyPost_ret (v := .tuple #[.agg #[.slice none 0 0, .slice none 0 0], .int .i64 8]) (by simp [results, Try.results21, go_sem, t0, t1]) rfl ⟨_, _, rfl, OwnS.zero _ _, ?_⟩
    repeat (first | (with_reducible exact HB.out) | (with_reducible exact Below.refl _ _) | (with_reducible apply Below.drew) | (with_reducible apply below_alloc) | ((with_reducible refine Below.alloc ?_ ?_ _); rotate_left; focus (first | (simp; done) | (simp; omega) | omega)) | ((with_reducible refine Below.setCell ?_ ?_ _); rotate_left; focus (first | (simp; done) | (simp; omega) | omega)))
end Go.Proofs.Ytblgmjbajnkcdab
