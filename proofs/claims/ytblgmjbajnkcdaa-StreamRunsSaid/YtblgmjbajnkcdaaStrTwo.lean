/-
  The statements' own topics of two messages, and that they are as the chapter says. No condition.
-/
import Derived.Test.YtblgmjbajnkcdaaStrDo
import Derived.Test.YtblgmjbajnkcdaaStrPut
import Derived.Test.YtblgmjbajnkcdaaStrNew
namespace Go.Proofs.Ytblgmjbajnkcdaa
open Go.RowKit

def sOne : Top := ⟨0, 1, 0, [⟨0, 5, ⟨#[107]⟩, ⟨#[120]⟩⟩]⟩
def sTwo : Top := ⟨0, 2, 0, [⟨0, 5, ⟨#[107]⟩, ⟨#[120]⟩⟩, ⟨1, 6, ⟨#[107]⟩, ⟨#[121]⟩⟩]⟩
def sA : Str := ⟨newS.tops.set 2 sOne, newC⟩
def sB : Str := ⟨sA.tops.set 2 sTwo, newC⟩
def sC : Str := ⟨sB.tops, setC newC 2 5 2⟩
theorem ask_new : askS newS 2 = 0 := by decide +kernel
theorem ask_A : askS sA 2 = 0 := by decide +kernel
theorem ask_B : askS sB 2 = 0 := by decide +kernel
theorem ask_B1 : askS sB 1 = 0 := by decide +kernel
theorem may_B : mayS sB := (askS_zero.1 ask_B).1
theorem may_A : mayS sA := (askS_zero.1 ask_A).1
theorem may_C : mayS sC := by decide +kernel
theorem may_newS : mayS newS := (askS_zero.1 ask_new).1
theorem put_A : putS newS 5 2 ⟨#[107]⟩ ⟨#[120]⟩ = (sA, 0, 0) := by
  rw [putS, if_pos ask_new, show addP (topN newS 2) 5 ⟨#[107]⟩ ⟨#[120]⟩ = (sOne, 0, 0) by rw [show topN newS 2 = Top.zero from rfl, addP, if_pos (by decide +kernel)]; rfl]
  rfl
theorem put_B : putS sA 6 2 ⟨#[107]⟩ ⟨#[121]⟩ = (sB, 1, 0) := by
  rw [putS, if_pos ask_A, show addP (topN sA 2) 6 ⟨#[107]⟩ ⟨#[121]⟩ = (sTwo, 1, 0) by rw [show topN sA 2 = sOne from rfl, addP, if_pos (by decide +kernel)]; rfl]
  rfl
theorem end_B2 : endS sB 2 = (2, 0) := by rw [endS, if_pos ask_B]; rfl
theorem end_B1 : endS sB 1 = (0, 0) := by rw [endS, if_pos ask_B1]; rfl
theorem do_C : doS sB 4 2 5 2 = (sC, 0) := by rw [doS, if_pos ask_B, if_pos rfl, commitS, if_neg (by decide), if_neg (by decide)]; rfl
theorem far_C : farS sC 2 5 = (2, 0) := by rw [farS, if_pos may_C]; rfl

def StrEndB (s : Str) (w : World) (e : Ending) (w' : World) : Prop := ∃ ta tc, e = .returned (.tuple #[.agg #[ta, tc], .bool true]) ∧ OwnS w' w.heap.size (.agg #[ta, tc]) s ∧ Below w.heap.size w w'

set_option maxHeartbeats 1000000 in
set_option maxRecDepth 100000 in
theorem strTwo_any (w : World) : Calls Try.prog 29 #[] w (StrEndB sB w) := by
  have K0 := Lib.hid (keysS_of_may may_newS)
  have KA := Lib.hid (keysS_of_may may_A)
  go_enter Try.func29, Try.ntmps29
  go_wp2_with fail
  refine Calls.mono (strNew_any _) ?_
  rintro e w1 ⟨ta, tc, rfl, os, hb⟩
  obtain ⟨a1, cap1, b1, nc1, cc1, ev, -, -⟩ := os.reads.shape
  cases ev
  have HB : Hid (Below w.heap.size w _) := below_step (by repeat (first | (with_reducible exact Below.refl _ _) | (with_reducible exact Below.refl _ _) | (with_reducible apply Below.drew) | (with_reducible apply below_alloc) | ((with_reducible refine Below.alloc ?_ ?_ _); rotate_left; focus (first | (simp; done) | (simp; omega) | omega)) | ((with_reducible refine Below.setCell ?_ ?_ _); rotate_left; focus (first | (simp; done) | (simp; omega) | omega)))) hb
  have R : Blk _ (w.heap.size) _ _ := Blk.step (by repeat (first | ((with_reducible apply Blk.new); focus (first | rfl | (simp; done) | (simp; omega))) | (with_reducible apply Blk.drew) | (with_reducible apply Blk.alloc) | (with_reducible apply Blk.set_) | ((with_reducible apply Blk.far); rotate_left; focus (first | (simp; done) | (simp; omega) | omega)))) hb
  obtain ⟨r0, r1, rz⟩ := cells2 R
  have rl := Blk.lt R
  have HR := Lib.hid R
  clear R
  have S1 : Hid (StrR w1 _ newS) := Lib.hid os.reads
  clear hb os
  go_wp2_with fail
  refine Calls.mono (strPut_any 5 2 ⟨#[107]⟩ ⟨#[120]⟩ ?_ K0.out put_A) ?_
  · exact S1.out.below (by repeat (first | (with_reducible exact Below.refl _ _) | (with_reducible exact Below.refl _ _) | (with_reducible apply Below.drew) | (with_reducible apply below_alloc) | ((with_reducible refine Below.alloc ?_ ?_ _); rotate_left; focus (first | (simp; done) | (simp; omega) | omega)) | ((with_reducible refine Below.setCell ?_ ?_ _); rotate_left; focus (first | (simp; done) | (simp; omega) | omega))))
  rintro e w2 ⟨ta2, tc2, rfl, os2, hb⟩
  obtain ⟨a2, cap2, b2, nc2, cc2, ev, -, -⟩ := os2.reads.shape
  cases ev
  replace HB : Hid (Below w.heap.size w _) := below_step (by repeat (first | (with_reducible exact HB.out) | (with_reducible exact Below.refl _ _) | (with_reducible apply Below.drew) | (with_reducible apply below_alloc) | ((with_reducible refine Below.alloc ?_ ?_ _); rotate_left; focus (first | (simp; done) | (simp; omega) | omega)) | ((with_reducible refine Below.setCell ?_ ?_ _); rotate_left; focus (first | (simp; done) | (simp; omega) | omega)))) hb
  clear r0 r1 rz rl
  replace HR : Hid (Blk _ (w.heap.size) _ _) := Blk.step (by repeat (first | (with_reducible exact HR.out) | ((with_reducible apply Blk.new); focus (first | rfl | (simp; done) | (simp; omega))) | (with_reducible apply Blk.drew) | (with_reducible apply Blk.alloc) | (with_reducible apply Blk.set_) | ((with_reducible apply Blk.far); rotate_left; focus (first | (simp; done) | (simp; omega) | omega)))) hb
  obtain ⟨r0, r1, rz⟩ := cells2 HR.out
  have rl := Blk.lt HR.out
  have S2 : Hid (StrR w2 _ sA) := Lib.hid os2.reads
  have s2 : w.heap.size < w2.heap.size := rl
  clear hb os2
  go_wp2_with fail
  refine Calls.mono (strPut_any 6 2 ⟨#[107]⟩ ⟨#[121]⟩ ?_ KA.out put_B) ?_
  · exact S2.out.below (by repeat (first | (with_reducible exact Below.refl _ _) | (with_reducible exact Below.refl _ _) | (with_reducible apply Below.drew) | (with_reducible apply below_alloc) | ((with_reducible refine Below.alloc ?_ ?_ _); rotate_left; focus (first | (simp; done) | (simp; omega) | omega)) | ((with_reducible refine Below.setCell ?_ ?_ _); rotate_left; focus (first | (simp; done) | (simp; omega) | omega))))
  rintro e w3 ⟨ta3, tc3, rfl, os3, hb⟩
  obtain ⟨a3, cap3, b3, nc3, cc3, ev, -, -⟩ := os3.reads.shape
  cases ev
  replace HB : Hid (Below w.heap.size w _) := below_step (by repeat (first | (with_reducible exact HB.out) | (with_reducible exact Below.refl _ _) | (with_reducible apply Below.drew) | (with_reducible apply below_alloc) | ((with_reducible refine Below.alloc ?_ ?_ _); rotate_left; focus (first | (simp; done) | (simp; omega) | omega)) | ((with_reducible refine Below.setCell ?_ ?_ _); rotate_left; focus (first | (simp; done) | (simp; omega) | omega)))) hb
  clear r0 r1 rz rl
  replace HR : Hid (Blk _ (w.heap.size) _ _) := Blk.step (by repeat (first | (with_reducible exact HR.out) | ((with_reducible apply Blk.new); focus (first | rfl | (simp; done) | (simp; omega))) | (with_reducible apply Blk.drew) | (with_reducible apply Blk.alloc) | (with_reducible apply Blk.set_) | ((with_reducible apply Blk.far); rotate_left; focus (first | (simp; done) | (simp; omega) | omega)))) hb
  obtain ⟨r0, r1, rz⟩ := cells2 HR.out
  have rl := Blk.lt HR.out
  have Q : Blk _ (w2.heap.size) _ _ := Blk.step (by repeat (first | ((with_reducible apply Blk.new); focus (first | rfl | (simp; done) | (simp; omega))) | (with_reducible apply Blk.drew) | (with_reducible apply Blk.alloc) | (with_reducible apply Blk.set_) | ((with_reducible apply Blk.far); rotate_left; focus (first | (simp; done) | (simp; omega) | omega)))) hb
  obtain ⟨q0, q1, qz⟩ := cells2 Q
  have ql := Blk.lt Q
  have HQ := Lib.hid Q
  clear Q
  have O3 : Hid (OwnS w3 w.heap.size _ sB) := Lib.hid (os3.le (by simp; omega))
  clear hb os3
  go_wp2_with fail
  have HQ4 := HQ.out.set_ 0 (.slice a3 sB.tops.length cap3)
  have HR4 := (HR.out.far (b := w2.heap.size) (o := 0) (by omega) (.slice a3 sB.tops.length cap3)).far (b := w2.heap.size) (o := 1) (by omega) (.slice b3 nc3 cc3)
  have HR5 := HR4.set_ 0 (.slice a3 sB.tops.length cap3)
  obtain ⟨t0, t1, -⟩ := cells2 (HR5.set_ 1 (.slice b3 nc3 cc3))
  refine bodyPost_ret (v := .tuple #[.agg #[.slice a3 sB.tops.length cap3, .slice b3 nc3 cc3], .bool true]) (by simp [results, Try.results29, go_sem, t0, t1]) rfl ⟨_, _, rfl, ?_, ?_⟩
  · exact (((O3.out.blk HQ.out (by decide) (by decide) (by decide) (by decide)).blk HQ4 (by decide) (by decide) (by decide) (by decide)).blk HR4 (by decide) (by decide) (by decide) (by decide)).blk HR5 (by decide) (by decide) (by decide) (by decide)
  · repeat (first | (with_reducible exact HB.out) | (with_reducible exact Below.refl _ _) | (with_reducible apply Below.drew) | (with_reducible apply below_alloc) | ((with_reducible refine Below.alloc ?_ ?_ _); rotate_left; focus (first | (simp; done) | (simp; omega) | omega)) | ((with_reducible refine Below.setCell ?_ ?_ _); rotate_left; focus (first | (simp; done) | (simp; omega) | omega)))

set_option maxHeartbeats 1000000 in
set_option maxRecDepth 100000 in
theorem strAlive_any (w : World) : Calls Try.prog 17 #[] w fun e w' => e = .returned (.bool true) ∧ Below w.heap.size w w' := by
  have KB := Lib.hid (keysS_of_may may_B)
  have KC := Lib.hid (keysS_of_may may_C)
  go_enter Try.func17, Try.ntmps17
  go_wp2_with fail
  refine Calls.mono (strTwo_any _) ?_
  rintro e w1 ⟨ta, tc, rfl, os, hb⟩
  obtain ⟨a1, cap1, b1, nc1, cc1, ev, -, -⟩ := os.reads.shape
  cases ev
  have HB : Hid (Below w.heap.size w _) := below_step (by repeat (first | (with_reducible exact Below.refl _ _) | (with_reducible exact Below.refl _ _) | (with_reducible apply Below.drew) | (with_reducible apply below_alloc) | ((with_reducible refine Below.alloc ?_ ?_ _); rotate_left; focus (first | (simp; done) | (simp; omega) | omega)) | ((with_reducible refine Below.setCell ?_ ?_ _); rotate_left; focus (first | (simp; done) | (simp; omega) | omega)))) hb
  have S1 : Hid (StrR w1 _ sB) := Lib.hid os.reads
  clear hb os
  go_wp2_with fail
  refine Calls.mono (strEnd_any 2 ?_ KB.out end_B2) ?_
  · exact S1.out.below (by repeat (first | (with_reducible exact Below.refl _ _) | (with_reducible exact Below.refl _ _) | (with_reducible apply Below.drew) | (with_reducible apply below_alloc) | ((with_reducible refine Below.alloc ?_ ?_ _); rotate_left; focus (first | (simp; done) | (simp; omega) | omega)) | ((with_reducible refine Below.setCell ?_ ?_ _); rotate_left; focus (first | (simp; done) | (simp; omega) | omega))))
  rintro e w2 ⟨rfl, hb⟩
  replace HB : Hid (Below w.heap.size w _) := below_step (by repeat (first | (with_reducible exact HB.out) | (with_reducible exact Below.refl _ _) | (with_reducible apply Below.drew) | (with_reducible apply below_alloc) | ((with_reducible refine Below.alloc ?_ ?_ _); rotate_left; focus (first | (simp; done) | (simp; omega) | omega)) | ((with_reducible refine Below.setCell ?_ ?_ _); rotate_left; focus (first | (simp; done) | (simp; omega) | omega)))) hb
  replace S1 : Hid (StrR _ _ _) := strR_step S1.out (by repeat (first | (with_reducible exact Below.refl _ _) | (with_reducible exact Below.refl _ _) | (with_reducible apply Below.drew) | (with_reducible apply below_alloc) | ((with_reducible refine Below.alloc ?_ ?_ _); rotate_left; focus (first | (simp; done) | (simp; omega) | omega)) | ((with_reducible refine Below.setCell ?_ ?_ _); rotate_left; focus (first | (simp; done) | (simp; omega) | omega)))) hb
  have Q : Blk _ (w1.heap.size) _ _ := Blk.step (by repeat (first | ((with_reducible apply Blk.new); focus (first | rfl | (simp; done) | (simp; omega))) | (with_reducible apply Blk.drew) | (with_reducible apply Blk.alloc) | (with_reducible apply Blk.set_) | ((with_reducible apply Blk.far); rotate_left; focus (first | (simp; done) | (simp; omega) | omega)))) hb
  obtain ⟨q0, q1, qz⟩ := cells2 Q
  have ql := Blk.lt Q
  have HQ := Lib.hid Q
  clear Q
  clear hb
  go_wp2_with fail
  refine Calls.mono (strEnd_any 1 ?_ KB.out end_B1) ?_
  · exact S1.out.below (by repeat (first | (with_reducible exact Below.refl _ _) | (with_reducible exact Below.refl _ _) | (with_reducible apply Below.drew) | (with_reducible apply below_alloc) | ((with_reducible refine Below.alloc ?_ ?_ _); rotate_left; focus (first | (simp; done) | (simp; omega) | omega)) | ((with_reducible refine Below.setCell ?_ ?_ _); rotate_left; focus (first | (simp; done) | (simp; omega) | omega))))
  rintro e w3 ⟨rfl, hb⟩
  replace HB : Hid (Below w.heap.size w _) := below_step (by repeat (first | (with_reducible exact HB.out) | (with_reducible exact Below.refl _ _) | (with_reducible apply Below.drew) | (with_reducible apply below_alloc) | ((with_reducible refine Below.alloc ?_ ?_ _); rotate_left; focus (first | (simp; done) | (simp; omega) | omega)) | ((with_reducible refine Below.setCell ?_ ?_ _); rotate_left; focus (first | (simp; done) | (simp; omega) | omega)))) hb
  replace S1 : Hid (StrR _ _ _) := strR_step S1.out (by repeat (first | (with_reducible exact Below.refl _ _) | (with_reducible exact Below.refl _ _) | (with_reducible apply Below.drew) | (with_reducible apply below_alloc) | ((with_reducible refine Below.alloc ?_ ?_ _); rotate_left; focus (first | (simp; done) | (simp; omega) | omega)) | ((with_reducible refine Below.setCell ?_ ?_ _); rotate_left; focus (first | (simp; done) | (simp; omega) | omega)))) hb
  clear q0 q1 qz ql
  replace HQ : Hid (Blk _ (w1.heap.size) _ _) := Blk.step (by repeat (first | (with_reducible exact HQ.out) | ((with_reducible apply Blk.new); focus (first | rfl | (simp; done) | (simp; omega))) | (with_reducible apply Blk.drew) | (with_reducible apply Blk.alloc) | (with_reducible apply Blk.set_) | ((with_reducible apply Blk.far); rotate_left; focus (first | (simp; done) | (simp; omega) | omega)))) hb
  obtain ⟨q0, q1, qz⟩ := cells2 HQ.out
  have ql := Blk.lt HQ.out
  clear hb
  go_wp2_with fail
  refine Calls.mono (strDo_any 2 5 2 ?_ KB.out do_C) ?_
  · exact S1.out.below (by repeat (first | (with_reducible exact Below.refl _ _) | (with_reducible exact Below.refl _ _) | (with_reducible apply Below.drew) | (with_reducible apply below_alloc) | ((with_reducible refine Below.alloc ?_ ?_ _); rotate_left; focus (first | (simp; done) | (simp; omega) | omega)) | ((with_reducible refine Below.setCell ?_ ?_ _); rotate_left; focus (first | (simp; done) | (simp; omega) | omega))))
  rintro e w4 ⟨ta4, tc4, rfl, os4, hb⟩
  obtain ⟨a4, cap4, b4, nc4, cc4, ev, -, -⟩ := os4.reads.shape
  cases ev
  replace HB : Hid (Below w.heap.size w _) := below_step (by repeat (first | (with_reducible exact HB.out) | (with_reducible exact Below.refl _ _) | (with_reducible apply Below.drew) | (with_reducible apply below_alloc) | ((with_reducible refine Below.alloc ?_ ?_ _); rotate_left; focus (first | (simp; done) | (simp; omega) | omega)) | ((with_reducible refine Below.setCell ?_ ?_ _); rotate_left; focus (first | (simp; done) | (simp; omega) | omega)))) hb
  have S4 : Hid (StrR w4 _ sC) := Lib.hid os4.reads
  clear hb os4
  go_wp2_with fail
  refine Calls.mono (strFar_any 2 5 ?_ KC.out far_C) ?_
  · exact S4.out.below (by repeat (first | (with_reducible exact Below.refl _ _) | (with_reducible exact Below.refl _ _) | (with_reducible apply Below.drew) | (with_reducible apply below_alloc) | ((with_reducible refine Below.alloc ?_ ?_ _); rotate_left; focus (first | (simp; done) | (simp; omega) | omega)) | ((with_reducible refine Below.setCell ?_ ?_ _); rotate_left; focus (first | (simp; done) | (simp; omega) | omega))))
  rintro e w5 ⟨rfl, hb⟩
  replace HB : Hid (Below w.heap.size w _) := below_step (by repeat (first | (with_reducible exact HB.out) | (with_reducible exact Below.refl _ _) | (with_reducible apply Below.drew) | (with_reducible apply below_alloc) | ((with_reducible refine Below.alloc ?_ ?_ _); rotate_left; focus (first | (simp; done) | (simp; omega) | omega)) | ((with_reducible refine Below.setCell ?_ ?_ _); rotate_left; focus (first | (simp; done) | (simp; omega) | omega)))) hb
  clear hb
  go_wp2_with fail
  go_ret
  refine ⟨rfl, ?_⟩
  repeat (first | (with_reducible exact HB.out) | (with_reducible exact Below.refl _ _) | (with_reducible apply Below.drew) | (with_reducible apply below_alloc) | ((with_reducible refine Below.alloc ?_ ?_ _); rotate_left; focus (first | (simp; done) | (simp; omega) | omega)) | ((with_reducible refine Below.setCell ?_ ?_ _); rotate_left; focus (first | (simp; done) | (simp; omega) | omega)))
end Go.Proofs.Ytblgmjbajnkcdaa
