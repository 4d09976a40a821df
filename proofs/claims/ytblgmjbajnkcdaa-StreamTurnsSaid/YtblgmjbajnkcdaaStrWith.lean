/-
  stream.with. The topic that is put in is the caller's own.
-/
import Derived.Test.YtblgmjbajnkcdaaStrTwin
namespace Go.Proofs.Ytblgmjbajnkcdaa
open Go.RowKit

def OwnEnd (s : Str) (B : Nat) (w : World) (e : Ending) (w' : World) : Prop := ∃ ta tc, e = .returned (.agg #[ta, tc]) ∧ OwnS w' B (.agg #[ta, tc]) s ∧ Below w.heap.size w w'

set_option maxHeartbeats 8000000 in
set_option maxRecDepth 100000 in
theorem with_any {v : Value} {s : Str} {w : World} {B : Nat} {t : Top} {ua : Option Addr} {uc : Nat} (i : Nat) (h : StrR w v s) (hf : fewS s) (hi : i < s.tops.length) (hu : OwnE w B (.slice ua t.ents.length uc) t.ents) (hB : B ≤ w.heap.size) :
    Calls Try.prog 46 #[v, .int .i64 (i : Int), .agg #[.int .i64 t.base, .int .i64 t.next, .int .i64 t.mark, .slice ua t.ents.length uc]] w (OwnEnd ⟨s.tops.set i t, s.coms⟩ B w) := by
  have S := Lib.hid h
  have HF := Lib.hid hf
  have HI := Lib.hid hi
  have HU := Lib.hid hu
  obtain ⟨a, cap, b, nc, cc, rfl, -, -⟩ := h.shape
  have hn := hf.1
  clear hu h hf
  go_enter Try.func46, Try.ntmps46
  go_wp2_with fail
  refine Calls.mono (strTwin_any ?_ HF.out) ?_
  · exact S.out.below (by repeat (first | (with_reducible exact Below.refl _ _) | (with_reducible exact Below.refl _ _) | (with_reducible apply Below.drew) | (with_reducible apply below_alloc) | ((with_reducible refine Below.alloc ?_ ?_ _); rotate_left; focus (first | (simp; done) | (simp; omega) | omega)) | ((with_reducible refine Below.setCell ?_ ?_ _); rotate_left; focus (first | (simp; done) | (simp; omega) | omega))))
  rintro e w1 ⟨ta, tc, rfl, os, hb⟩
  obtain ⟨a1, cap1, b1, nc1, cc1, ev, -, -⟩ := os.reads.shape
  cases ev
  have HB : Hid (Below w.heap.size w _) := below_step (by repeat (first | (with_reducible exact Below.refl _ _) | (with_reducible exact Below.refl _ _) | (with_reducible apply Below.drew) | (with_reducible apply below_alloc) | ((with_reducible refine Below.alloc ?_ ?_ _); rotate_left; focus (first | (simp; done) | (simp; omega) | omega)) | ((with_reducible refine Below.setCell ?_ ?_ _); rotate_left; focus (first | (simp; done) | (simp; omega) | omega)))) hb
  have P : Blk _ (w.heap.size) _ _ := Blk.step (by repeat (first | ((with_reducible apply Blk.new); focus (first | rfl | (simp; done) | (simp; omega))) | (with_reducible apply Blk.drew) | (with_reducible apply Blk.alloc) | (with_reducible apply Blk.set_) | ((with_reducible apply Blk.far); rotate_left; focus (first | (simp; done) | (simp; omega) | omega)))) hb
  obtain ⟨p0, p1, pz⟩ := cells2 P
  have pl := Blk.lt P
  have HP := Lib.hid P
  clear P
  have X : Blk _ (w.heap.size + 1) _ _ := Blk.step (by repeat (first | ((with_reducible apply Blk.new); focus (first | rfl | (simp; done) | (simp; omega))) | (with_reducible apply Blk.drew) | (with_reducible apply Blk.alloc) | (with_reducible apply Blk.set_) | ((with_reducible apply Blk.far); rotate_left; focus (first | (simp; done) | (simp; omega) | omega)))) hb
  obtain ⟨x0, x1, x2, x3, xz⟩ := cells4 X
  have xl := Blk.lt X
  have HX := Lib.hid X
  clear X
  have R : Blk _ (w.heap.size + 2) _ _ := Blk.step (by repeat (first | ((with_reducible apply Blk.new); focus (first | rfl | (simp; done) | (simp; omega))) | (with_reducible apply Blk.drew) | (with_reducible apply Blk.alloc) | (with_reducible apply Blk.set_) | ((with_reducible apply Blk.far); rotate_left; focus (first | (simp; done) | (simp; omega) | omega)))) hb
  obtain ⟨r0, r1, rz⟩ := cells2 R
  have rl := Blk.lt R
  have HR := Lib.hid R
  clear R
  obtain ⟨_, _, ev, ot, oc⟩ := os
  cases ev
  have OT : Hid (OwnT w1 (w.heap.size + 3) _ _) := ot.le (by simp)
  have OC : Hid (OwnC w1 (w.heap.size + 3) _ _) := OwnRows.le oc (by simp)
  clear hb ot oc
  obtain ⟨g, hg, ⟨hg1, hg2⟩, ⟨-, hn1, hn2⟩, hat, hfz⟩ := OT.out.at_ HI.out
  subst hg
  obtain ⟨ea, ecap, ⟨⟨⟨c0, c1⟩, c2⟩, c3⟩, -⟩ := hat
  unfold maxLen at hn2
  have hi0 : (0 : Int) ≤ (i : Int) := by omega
  have hi1 : (i : Int) < (s.tops.length : Int) := by omega
  go_wp2_with fail
  have HW1 : Below w.heap.size w ((w1.setCell ⟨w.heap.size, 0, none⟩ (.slice (some ⟨g, 0, none⟩) s.tops.length cap1)).setCell ⟨w.heap.size, 1, none⟩ (.slice b1 nc1 cc1)) := (HB.out.setCell (by simp) _).setCell (by simp) _
  have OT1 := (OT.out.far (o := 0) (b := w.heap.size) (u := .slice (some ⟨g, 0, none⟩) s.tops.length cap1) (by omega)).far (o := 1) (b := w.heap.size) (u := .slice b1 nc1 cc1) (by omega)
  have OC1 := OwnC.far (o := 1) (b := w.heap.size) (u := .slice b1 nc1 cc1) (OwnC.far (o := 0) (b := w.heap.size) (u := .slice (some ⟨g, 0, none⟩) s.tops.length cap1) OC.out (by omega)) (by omega)
  have HR1 := (HR.out.far (o := 0) (b := w.heap.size) (by omega) (.slice (some ⟨g, 0, none⟩) s.tops.length cap1)).far (o := 1) (b := w.heap.size) (by omega) (.slice b1 nc1 cc1)
  obtain ⟨ps, -, hrow, -⟩ := id OT1
  have OT2 := (OT1.le (B' := B) (by omega)).put HI.out (own_below HU.out HW1)
  have OC2 := OwnC.over OC1 (fun b hb => heap_putT (i := i) (u := .slice ua t.ents.length uc) (t := t) hb) hrow rfl (by decide) (by decide)
  have HR2 := (((HR1.far (b := g) (o := i * 4) (by omega) (.int .i64 t.base)).far (b := g) (o := i * 4 + 1) (by omega) (.int .i64 t.next)).far (b := g) (o := i * 4 + 2) (by omega) (.int .i64 t.mark)).far (b := g) (o := i * 4 + 3) (by omega) (.slice ua t.ents.length uc)
  have HB2 := below_putT (i := i) (u := .slice ua t.ents.length uc) (t := t) HW1 (show w.heap.size ≤ g by omega)
  have HR3 := HR2.set_ 0 (.slice (some ⟨g, 0, none⟩) s.tops.length cap1)
  obtain ⟨t0, t1, -⟩ := cells2 (HR3.set_ 1 (.slice b1 nc1 cc1))
  refine bodyPost_ret (v := .agg #[.slice (some ⟨g, 0, none⟩) s.tops.length cap1, .slice b1 nc1 cc1]) (by simp [results, Try.results46, go_sem, t0, t1]) rfl ⟨_, _, rfl, ⟨_, _, rfl, ?_, ?_⟩, ?_⟩
  · exact OwnT.blk (OwnT.blk OT2 HR2 (by decide) (by decide)) HR3 (by decide) (by decide)
  · exact OwnRows.le (OwnC.far (OwnC.far OC2 (by omega)) (by omega)) (by omega)
  · exact (HB2.setCell (p := ⟨w.heap.size + 2, 0, none⟩) (by simp) _).setCell (p := ⟨w.heap.size + 2, 1, none⟩) (by simp) _
end Go.Proofs.Ytblgmjbajnkcdaa
