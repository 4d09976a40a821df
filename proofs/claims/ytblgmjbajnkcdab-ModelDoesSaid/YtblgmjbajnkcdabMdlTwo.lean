/-
  The statements' own model of two messages, and that it is as the chapter says. No condition.
-/
import Derived.Test.YtblgmjbajnkcdabMdlDo
import Derived.Test.YtblgmjbajnkcdabMdlPut
import Derived.Test.YtblgmjbajnkcdabMdlNew
import Derived.Test.YtblgmjbajnkcdabMdlFetch
namespace Go.Proofs.Ytblgmjbajnkcdab
open Go.RowKit

def pOne : Pl := ⟨[⟨0, 5, ⟨#[107]⟩, ⟨#[120]⟩⟩], 0, 0⟩
def pTwo : Pl := ⟨[⟨0, 5, ⟨#[107]⟩, ⟨#[120]⟩⟩, ⟨1, 6, ⟨#[107]⟩, ⟨#[121]⟩⟩], 0, 0⟩
def pThr : Pl := ⟨[⟨0, 5, ⟨#[107]⟩, ⟨#[120]⟩⟩, ⟨1, 6, ⟨#[107]⟩, ⟨#[121]⟩⟩], 0, 2⟩
def mA : Mdl := ⟨newM.tops.set 1 pOne, newC⟩
def mB : Mdl := ⟨mA.tops.set 1 pTwo, newC⟩
def mC : Mdl := ⟨mB.tops.set 1 pThr, newC⟩
theorem askm_new : askM newM 1 = 0 := by decide +kernel
theorem askm_A : askM mA 1 = 0 := by decide +kernel
theorem askm_B : askM mB 1 = 0 := by decide +kernel
theorem askm_C : askM mC 1 = 0 := by decide +kernel
theorem may_mB : mayM mB := (askM_zero.1 askm_B).1
theorem may_mA : mayM mA := (askM_zero.1 askm_A).1
theorem may_mC : mayM mC := (askM_zero.1 askm_C).1
theorem may_newM : mayM newM := (askM_zero.1 askm_new).1
theorem putm_A : putM newM 5 1 ⟨#[107]⟩ ⟨#[120]⟩ = (mA, 0, 0) := by
  rw [putM_ok askm_new, if_neg (by decide), if_neg (by decide +kernel), if_neg (by decide +kernel)]
  rfl
theorem putm_B : putM mA 6 1 ⟨#[107]⟩ ⟨#[121]⟩ = (mB, 1, 0) := by
  rw [putM_ok askm_A, if_neg (by decide), if_neg (by decide +kernel), if_neg (by decide +kernel)]
  rfl
theorem dom_C : doM mB 6 1 0 2 = (mC, 0) := by
  rw [doM, if_pos may_mB, if_neg (by decide), if_neg (by decide), if_neg (by decide)]
  rfl
theorem fetchm_0 : fetchM mC 1 0 = (default, 172) := by rw [fetchM, if_pos askm_C, fetchL, if_neg (by decide), if_neg (by decide +kernel), if_neg (by decide +kernel), if_neg (by decide +kernel)]
theorem fetchm_1 : fetchM mC 1 1 = (⟨1, 6, ⟨#[107]⟩, ⟨#[121]⟩⟩, 0) := by
  rw [fetchM, if_pos askm_C, fetchL, if_neg (by decide), if_neg (by decide +kernel), if_neg (by decide +kernel), if_pos (by decide +kernel)]
  rfl

def MdlEndB (m : Mdl) (w : World) (e : Ending) (w' : World) : Prop := ∃ ta tc, e = .returned (.tuple #[.agg #[ta, tc], .bool true]) ∧ OwnN w' w.heap.size (.agg #[ta, tc]) m ∧ Below w.heap.size w w'

set_option maxHeartbeats 1000000 in
set_option maxRecDepth 100000 in
theorem mdlTwo_any (w : World) : Calls Try.prog 31 #[] w (MdlEndB mB w) := by
  have K0 := Lib.hid (okC_few may_newM.2.1)
  have KA := Lib.hid (okC_few may_mA.2.1)
  go_enter Try.func31, Try.ntmps31
  go_wp2_with fail
  refine Calls.mono (mdlNew_any _) ?_
  rintro e w1 ⟨ta, tc, rfl, os, hb⟩
  obtain ⟨a1, cap1, b1, nc1, cc1, ev, -, -⟩ := os.reads.shape
  cases ev
  have HB : Hid (Below w.heap.size w _) := below_step (by repeat (first | (with_reducible exact Below.refl _ _) | (with_reducible exact Below.refl _ _) | (with_reducible apply Below.drew) | (with_reducible apply below_alloc) | ((with_reducible refine Below.alloc ?_ ?_ _); rotate_left; focus (first | (simp; done) | (simp; omega) | omega)) | ((with_reducible refine Below.setCell ?_ ?_ _); rotate_left; focus (first | (simp; done) | (simp; omega) | omega)))) hb
  have R : Blk _ (w.heap.size) _ _ := Blk.step (by repeat (first | ((with_reducible apply Blk.new); focus (first | rfl | (simp; done) | (simp; omega))) | (with_reducible apply Blk.drew) | (with_reducible apply Blk.alloc) | (with_reducible apply Blk.set_) | ((with_reducible apply Blk.far); rotate_left; focus (first | (simp; done) | (simp; omega) | omega)))) hb
  obtain ⟨r0, r1, rz⟩ := cells2 R
  have rl := Blk.lt R
  have HR := Lib.hid R
  clear R
  have S1 : Hid (MdlR w1 _ newM) := Lib.hid os.reads
  clear hb os
  go_wp2_with fail
  refine Calls.mono (mdlPut_any 5 1 ⟨#[107]⟩ ⟨#[120]⟩ ?_ K0.out putm_A) ?_
  · exact S1.out.below (by repeat (first | (with_reducible exact Below.refl _ _) | (with_reducible exact Below.refl _ _) | (with_reducible apply Below.drew) | (with_reducible apply below_alloc) | ((with_reducible refine Below.alloc ?_ ?_ _); rotate_left; focus (first | (simp; done) | (simp; omega) | omega)) | ((with_reducible refine Below.setCell ?_ ?_ _); rotate_left; focus (first | (simp; done) | (simp; omega) | omega))))
  rintro e w2 ⟨ta2, tc2, rfl, os2, hb⟩
  obtain ⟨a2, cap2, b2, nc2, cc2, ev, -, -⟩ := os2.reads.shape
  cases ev
  replace HB : Hid (Below w.heap.size w _) := below_step (by repeat (first | (with_reducible exact HB.out) | (with_reducible exact Below.refl _ _) | (with_reducible apply Below.drew) | (with_reducible apply below_alloc) | ((with_reducible refine Below.alloc ?_ ?_ _); rotate_left; focus (first | (simp; done) | (simp; omega) | omega)) | ((with_reducible refine Below.setCell ?_ ?_ _); rotate_left; focus (first | (simp; done) | (simp; omega) | omega)))) hb
  clear r0 r1 rz rl
  replace HR : Hid (Blk _ (w.heap.size) _ _) := Blk.step (by repeat (first | (with_reducible exact HR.out) | ((with_reducible apply Blk.new); focus (first | rfl | (simp; done) | (simp; omega))) | (with_reducible apply Blk.drew) | (with_reducible apply Blk.alloc) | (with_reducible apply Blk.set_) | ((with_reducible apply Blk.far); rotate_left; focus (first | (simp; done) | (simp; omega) | omega)))) hb
  obtain ⟨r0, r1, rz⟩ := cells2 HR.out
  have rl := Blk.lt HR.out
  have S2 : Hid (MdlR w2 _ mA) := Lib.hid os2.reads
  have s2 : w.heap.size < w2.heap.size := rl
  clear hb os2
  go_wp2_with fail
  refine Calls.mono (mdlPut_any 6 1 ⟨#[107]⟩ ⟨#[121]⟩ ?_ KA.out putm_B) ?_
  · exact S2.out.below (by repeat (first | (with_reducible exact Below.refl _ _) | (with_reducible exact Below.refl _ _) | (with_reducible apply Below.drew) | (with_reducible apply below_alloc) | ((with_reducible refine Below.alloc ?_ ?_ _); rotate_left; focus (first | (simp; done) | (simp; omega) | omega)) | ((with_reducible refine Below.setCell ?_ ?_ _); rotate_left; focus (first | (simp; done) | (simp; omega) | omega))))
  rintro e w3 ⟨ta3, tc3, rfl, os3, hb⟩
  obtain ⟨a3, cap3, b3, nc3, cc3, ev, -, -⟩ := os3.reads.shape
  cases ev
  replace HB : Hid (Below w.heap.size w _) := below_step (by repeat (first | (with_reducible exact HB.out) | (with_reducible exact Below.refl _ _) | (with_reducible apply Below.drew) | (with_reducible apply below_alloc) | ((with_reducible refine Below.alloc ?_ ?_ _); rotate_left; focus (first | (simp; done) | (simp; omega) | omega)) | ((with_reducible refine Below.setCell ?_ ?_ _); rotate_left; focus (first | (simp; done) | (simp; omega) | omega)))) hb
  clear r0 r1 rz rl
  replace HR : Hid (Blk _ (w.heap.size) _ _) := Blk.step (by repeat (first | (with_reducible exact HR.out) | ((with_reducible apply Blk.new); focus (first | rfl | (simp; done) | (simp; omega))) | (with_reducible apply Blk.drew) | (with_reducible apply Blk.alloc) | (with_reducible apply Blk.set_) | ((with_reducible apply Blk.far); rotate_left; focus (first | (simp; done) | (simp; omega) | omega)))) hb
  obtain ⟨r0, r1, rz⟩ := cells2 HR.out
  have rl := Blk.lt HR.out
  have Q : Blk _ (w2.heap.size) _ _ := Blk.step (by repeat (first | ((with_reducible apply Blk.new); focus (first | rfl | (simp; done) | (simp; omega))) | (with_reducible apply Blk.drew) | (with_reducible apply Blk.alloc) | (with_reducible apply Blk.set_) | ((with_reducible apply Blk.far); rotate_left; focus (first | (simp; done) | (simp; omega) | omega)))) hb
  obtain ⟨q0, q1, qz⟩ := cells2 Q
  have ql := Blk.lt Q
  have HQ := Lib.hid Q
  clear Q
  have O3 : Hid (OwnN w3 w.heap.size _ mB) := Lib.hid (os3.le (by simp; omega))
  clear hb os3
  go_wp2_with fail
  have HQ4 := HQ.out.set_ 0 (.slice a3 mB.tops.length cap3)
  have HR4 := (HR.out.far (b := w2.heap.size) (o := 0) (by omega) (.slice a3 mB.tops.length cap3)).far (b := w2.heap.size) (o := 1) (by omega) (.slice b3 nc3 cc3)
  have HR5 := HR4.set_ 0 (.slice a3 mB.tops.length cap3)
  obtain ⟨t0, t1, -⟩ := cells2 (HR5.set_ 1 (.slice b3 nc3 cc3))
  refine bodyPost_ret (v := .tuple #[.agg #[.slice a3 mB.tops.length cap3, .slice b3 nc3 cc3], .bool true]) (by simp [results, Try.results31, go_sem, t0, t1]) rfl ⟨_, _, rfl, ?_, ?_⟩
  · exact (((O3.out.blk HQ.out (by decide) (by decide) (by decide) (by decide)).blk HQ4 (by decide) (by decide) (by decide) (by decide)).blk HR4 (by decide) (by decide) (by decide) (by decide)).blk HR5 (by decide) (by decide) (by decide) (by decide)
  · repeat (first | (with_reducible exact HB.out) | (with_reducible exact Below.refl _ _) | (with_reducible apply Below.drew) | (with_reducible apply below_alloc) | ((with_reducible refine Below.alloc ?_ ?_ _); rotate_left; focus (first | (simp; done) | (simp; omega) | omega)) | ((with_reducible refine Below.setCell ?_ ?_ _); rotate_left; focus (first | (simp; done) | (simp; omega) | omega)))

set_option maxHeartbeats 1000000 in
set_option maxRecDepth 100000 in
theorem mdlAlive_any (w : World) : Calls Try.prog 32 #[] w fun e w' => e = .returned (.bool true) ∧ Below w.heap.size w w' := by
  have KB := Lib.hid (okC_few may_mB.2.1)
  have KC := Lib.hid (okC_few may_mC.2.1)
  go_enter Try.func32, Try.ntmps32
  go_wp2_with fail
  refine Calls.mono (mdlTwo_any _) ?_
  rintro e w1 ⟨ta, tc, rfl, os, hb⟩
  obtain ⟨a1, cap1, b1, nc1, cc1, ev, -, -⟩ := os.reads.shape
  cases ev
  have HB : Hid (Below w.heap.size w _) := below_step (by repeat (first | (with_reducible exact Below.refl _ _) | (with_reducible exact Below.refl _ _) | (with_reducible apply Below.drew) | (with_reducible apply below_alloc) | ((with_reducible refine Below.alloc ?_ ?_ _); rotate_left; focus (first | (simp; done) | (simp; omega) | omega)) | ((with_reducible refine Below.setCell ?_ ?_ _); rotate_left; focus (first | (simp; done) | (simp; omega) | omega)))) hb
  have S1 : Hid (MdlR w1 _ mB) := Lib.hid os.reads
  clear hb os
  go_wp2_with fail
  refine Calls.mono (mdlDo_any 1 0 2 ?_ KB.out dom_C) ?_
  · exact S1.out.below (by repeat (first | (with_reducible exact Below.refl _ _) | (with_reducible exact Below.refl _ _) | (with_reducible apply Below.drew) | (with_reducible apply below_alloc) | ((with_reducible refine Below.alloc ?_ ?_ _); rotate_left; focus (first | (simp; done) | (simp; omega) | omega)) | ((with_reducible refine Below.setCell ?_ ?_ _); rotate_left; focus (first | (simp; done) | (simp; omega) | omega))))
  rintro e w2 ⟨ta2, tc2, rfl, os2, hb⟩
  obtain ⟨a2, cap2, b2, nc2, cc2, ev, -, -⟩ := os2.reads.shape
  cases ev
  replace HB : Hid (Below w.heap.size w _) := below_step (by repeat (first | (with_reducible exact HB.out) | (with_reducible exact Below.refl _ _) | (with_reducible apply Below.drew) | (with_reducible apply below_alloc) | ((with_reducible refine Below.alloc ?_ ?_ _); rotate_left; focus (first | (simp; done) | (simp; omega) | omega)) | ((with_reducible refine Below.setCell ?_ ?_ _); rotate_left; focus (first | (simp; done) | (simp; omega) | omega)))) hb
  have S2 : Hid (MdlR w2 _ mC) := Lib.hid os2.reads
  clear hb os2
  go_wp2_with fail
  refine Calls.mono (mdlFetch_any 1 0 ?_ KC.out fetchm_0) ?_
  · exact S2.out.below (by repeat (first | (with_reducible exact Below.refl _ _) | (with_reducible exact Below.refl _ _) | (with_reducible apply Below.drew) | (with_reducible apply below_alloc) | ((with_reducible refine Below.alloc ?_ ?_ _); rotate_left; focus (first | (simp; done) | (simp; omega) | omega)) | ((with_reducible refine Below.setCell ?_ ?_ _); rotate_left; focus (first | (simp; done) | (simp; omega) | omega))))
  rintro e w3 ⟨rfl, hb⟩
  replace HB : Hid (Below w.heap.size w _) := below_step (by repeat (first | (with_reducible exact HB.out) | (with_reducible exact Below.refl _ _) | (with_reducible apply Below.drew) | (with_reducible apply below_alloc) | ((with_reducible refine Below.alloc ?_ ?_ _); rotate_left; focus (first | (simp; done) | (simp; omega) | omega)) | ((with_reducible refine Below.setCell ?_ ?_ _); rotate_left; focus (first | (simp; done) | (simp; omega) | omega)))) hb
  replace S2 : Hid (MdlR _ _ _) := mdlR_step S2.out (by repeat (first | (with_reducible exact Below.refl _ _) | (with_reducible exact Below.refl _ _) | (with_reducible apply Below.drew) | (with_reducible apply below_alloc) | ((with_reducible refine Below.alloc ?_ ?_ _); rotate_left; focus (first | (simp; done) | (simp; omega) | omega)) | ((with_reducible refine Below.setCell ?_ ?_ _); rotate_left; focus (first | (simp; done) | (simp; omega) | omega)))) hb
  have Q : Blk _ (w2.heap.size) _ _ := Blk.step (by repeat (first | ((with_reducible apply Blk.new); focus (first | rfl | (simp; done) | (simp; omega))) | (with_reducible apply Blk.drew) | (with_reducible apply Blk.alloc) | (with_reducible apply Blk.set_) | ((with_reducible apply Blk.far); rotate_left; focus (first | (simp; done) | (simp; omega) | omega)))) hb
  obtain ⟨q0, q1, qz⟩ := cells2 Q
  have ql := Blk.lt Q
  have HQ := Lib.hid Q
  clear Q
  clear hb
  go_wp2_with fail
  refine Calls.mono (mdlFetch_any 1 1 ?_ KC.out fetchm_1) ?_
  · exact S2.out.below (by repeat (first | (with_reducible exact Below.refl _ _) | (with_reducible exact Below.refl _ _) | (with_reducible apply Below.drew) | (with_reducible apply below_alloc) | ((with_reducible refine Below.alloc ?_ ?_ _); rotate_left; focus (first | (simp; done) | (simp; omega) | omega)) | ((with_reducible refine Below.setCell ?_ ?_ _); rotate_left; focus (first | (simp; done) | (simp; omega) | omega))))
  rintro e w4 ⟨rfl, hb⟩
  replace HB : Hid (Below w.heap.size w _) := below_step (by repeat (first | (with_reducible exact HB.out) | (with_reducible exact Below.refl _ _) | (with_reducible apply Below.drew) | (with_reducible apply below_alloc) | ((with_reducible refine Below.alloc ?_ ?_ _); rotate_left; focus (first | (simp; done) | (simp; omega) | omega)) | ((with_reducible refine Below.setCell ?_ ?_ _); rotate_left; focus (first | (simp; done) | (simp; omega) | omega)))) hb
  clear hb
  go_wp2_with fail
  go_ret
  refine ⟨rfl, ?_⟩
  repeat (first | (with_reducible exact HB.out) | (with_reducible exact Below.refl _ _) | (with_reducible apply Below.drew) | (with_reducible apply below_alloc) | ((with_reducible refine Below.alloc ?_ ?_ _); rotate_left; focus (first | (simp; done) | (simp; omega) | omega)) | ((with_reducible refine Below.setCell ?_ ?_ _); rotate_left; focus (first | (simp; done) | (simp; omega) | omega)))
end Go.Proofs.Ytblgmjbajnkcdab
