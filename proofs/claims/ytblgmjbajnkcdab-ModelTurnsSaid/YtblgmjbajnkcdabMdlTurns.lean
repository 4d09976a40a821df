/-
  The walk of ModelTurns: whether a model may be, a message more, a command, the stream that it stands for are the document's; they stay, what is answered is new memory. No condition.
-/
import Derived.Test.YtblgmjbajnkcdabMdlDo
import Derived.Test.YtblgmjbajnkcdabMdlRDo
import Derived.Test.YtblgmjbajnkcdabMdlPut
import Derived.Test.YtblgmjbajnkcdabMdlRPut
import Derived.Test.YtblgmjbajnkcdabMdlNew
import Derived.Test.YtblgmjbajnkcdabMdlTwin
import Derived.Test.YtblgmjbajnkcdabMdlStream
import Derived.Test.YtblgmjbajnkcdabMdlRStream
import Derived.Test.YtblgmjbajnkcdabMdlSame
import Derived.Test.YtblgmjbajnkcdabMdlRSame
import Derived.Test.YtblgmjbajnkcdabMdlSpoil
import Derived.Test.YtblgmjbajnkcdabMdlTy
import Derived.Test.YtblgmjbajnkcdabMdlGreat
import Derived.Test.YtblgmjbajnkcdabMdlMay
import Derived.Test.YtblgmjbajnkcdabBunS
import Derived.Deep.RegionHeld3
import Derived.Deep.DeepCutAuto
import Derived.Deep.LoopGhost
namespace Go.Proofs.Ytblgmjbajnkcdab.MdlTurns
open Go.RowKit

theorem Blk.eq {w w' : World} {g : Nat} {t : TypeId} {cs : List Value} (h : Blk w g t cs) (e : w'.heap[g]? = w.heap[g]?) : Blk w' g t cs := e.trans h
theorem rsame (u : Mdl) {v v' : Value} {w : World} (h : MdlR w v u) (h' : MdlR w v' u) : Calls Try.prog 16 #[v, v'] w fun e w' => e = .returned (.bool true) ∧ Below w.heap.size w w' :=
  mdlRSame_any h h' (by simp)
theorem rsame_q {s s' : Mdl} {q : Bool} {v v' : Value} {w : World} (h : MdlR w v s) (h' : MdlR w v' s') (hq : q = true ↔ s = s') : Calls Try.prog 16 #[v, v'] w fun e w' => e = .returned (.bool q) ∧ Below w.heap.size w w' :=
  mdlRSame_any h h' hq
theorem psame (u : Mdl) {v v' : Value} {w : World} (h : MdlR w v u) (h' : MdlR w v' u) : Calls Try.prog 27 #[v, v'] w fun e w' => e = .returned (.bool true) ∧ Below w.heap.size w w' :=
  mdlSame_any h h' (by simp)
theorem psame_q {s s' : Mdl} {q : Bool} {v v' : Value} {w : World} (h : MdlR w v s) (h' : MdlR w v' s') (hq : q = true ↔ s = s') : Calls Try.prog 27 #[v, v'] w fun e w' => e = .returned (.bool q) ∧ Below w.heap.size w w' :=
  mdlSame_any h h' hq
theorem ssame (u : Str) {v v' : Value} {w : World} (h : StrR w v u) (h' : StrR w v' u) : Calls Try.prog 24 #[v, v'] w fun e w' => e = .returned (.bool true) ∧ Below w.heap.size w w' :=
  refStrSame_any h h' (by simp)

set_option maxHeartbeats 16000000 in
set_option maxRecDepth 100000 in
theorem mdlTurns {v v' : Value} {s so : Mdl} {w : World} (m : Msg) (c : Cmd) (h : MdlR w v s) (F : FitMdl s) (h' : MdlR w v' so) (F' : FitMdl so) : Calls Try.prog 4 #[v, v', msgVal m, cmdVal c] w (LawEnd w) := by
  have SS := Lib.hid h
  have SS0 := Lib.hid h
  have SQ := Lib.hid h'
  have HFF := Lib.hid F
  have HSZ := Lib.hid (mfit_sizes F)
  have HRW := Lib.hid (mfit_rows F)
  have HSZ2 := Lib.hid (mfit_sizes F')
  have HRW2 := Lib.hid (mfit_rows F')
  obtain ⟨a, cap, b, nc, cc, rfl, _, _⟩ := h.shape
  obtain ⟨a', cap', b', nc', cc', rfl, _, _⟩ := h'.shape
  clear F F' h h'
  obtain ⟨mid, ga, gn, gc, mt, mk, mb⟩ := m
  obtain ⟨kind, ⟨cid, cga, cgn, cgc, cmt, cmk, cmb⟩, id, time, ma, mn, mc, ct, cw, cn⟩ := c
  simp only [msgVal, cmdVal]
  obtain ⟨u, n, x, hu⟩ : ∃ u n x, putM s mid mt mk mb = (u, n, x) := ⟨_, _, _, rfl⟩
  obtain ⟨d, j, hd⟩ : ∃ d j, doM s kind ct cw cn = (d, j) := ⟨_, _, rfl⟩
  obtain ⟨su, si, hse⟩ : ∃ su si, streamE s = (su, si) := ⟨_, _, rfl⟩
  have PUT := Lib.hid hu
  have DO := Lib.hid hd
  have STE := Lib.hid hse
  obtain ⟨c8, hc8⟩ : ∃ c8 : Int, c8 = if mayM s then 0 else 8 := ⟨_, rfl⟩
  have CHK := Lib.hid hc8
  obtain ⟨qs, hqs⟩ : ∃ qs : Bool, qs = true ↔ s = so := by
    by_cases h : s = so
    · exact ⟨true, by simp [h]⟩
    · exact ⟨false, by simp [h]⟩
  have QSS := Lib.hid hqs
  obtain ⟨tn, htn⟩ : ∃ tn, tn = s.tops.length := ⟨_, rfl⟩
  clear hu hd hse hc8 hqs htn
  go_enter Try.func4, Try.ntmps4
  go_wp2_with fail
  refine Calls.mono (mdlGreat_any ?_ HSZ.out HRW.out) ?_
  · exact SS.out.below (by repeat (first | (with_reducible exact Below.refl _ _) | (with_reducible exact Below.refl _ _) | (with_reducible apply Below.drew) | (with_reducible apply below_alloc) | ((with_reducible refine Below.alloc ?_ ?_ _); rotate_left; focus (first | (simp; done) | (simp; omega) | omega)) | ((with_reducible refine Below.setCell ?_ ?_ _); rotate_left; focus (first | (simp; done) | (simp; omega) | omega))))
  rintro e w1 ⟨⟨gr, rfl, hgr⟩, hb⟩
  have HB : Hid (Below w.heap.size w _) := below_step (by repeat (first | (with_reducible exact Below.refl _ _) | (with_reducible exact Below.refl _ _) | (with_reducible apply Below.drew) | (with_reducible apply below_alloc) | ((with_reducible refine Below.alloc ?_ ?_ _); rotate_left; focus (first | (simp; done) | (simp; omega) | omega)) | ((with_reducible refine Below.setCell ?_ ?_ _); rotate_left; focus (first | (simp; done) | (simp; omega) | omega)))) hb
  have A : Blk _ (w.heap.size) _ _ := Blk.step (by repeat (first | ((with_reducible apply Blk.new); focus (first | rfl | (simp; done) | (simp; omega))) | (with_reducible apply Blk.drew) | (with_reducible apply Blk.alloc) | (with_reducible apply Blk.set_) | ((with_reducible apply Blk.far); rotate_left; focus (first | (simp; done) | (simp; omega) | omega)))) hb
  obtain ⟨a0, a1, az⟩ := cells2 A
  have al := Blk.lt A
  have HA := Lib.hid A
  clear A
  have Q : Blk _ (w.heap.size + 1) _ _ := Blk.step (by repeat (first | ((with_reducible apply Blk.new); focus (first | rfl | (simp; done) | (simp; omega))) | (with_reducible apply Blk.drew) | (with_reducible apply Blk.alloc) | (with_reducible apply Blk.set_) | ((with_reducible apply Blk.far); rotate_left; focus (first | (simp; done) | (simp; omega) | omega)))) hb
  obtain ⟨q0, q1, qz⟩ := cells2 Q
  have ql := Blk.lt Q
  have HQ := Lib.hid Q
  clear Q
  have M : Blk _ (w.heap.size + 2) _ _ := Blk.step (by repeat (first | ((with_reducible apply Blk.new); focus (first | rfl | (simp; done) | (simp; omega))) | (with_reducible apply Blk.drew) | (with_reducible apply Blk.alloc) | (with_reducible apply Blk.set_) | ((with_reducible apply Blk.far); rotate_left; focus (first | (simp; done) | (simp; omega) | omega)))) hb
  obtain ⟨m0, m1, m2, m3, m4, mz⟩ := cells5 M
  have ml := Blk.lt M
  have HM := Lib.hid M
  clear M
  have HC : Hid (Blk w1 (w.heap.size + 3) 47 [.int .u8 kind, .int .i64 cid, .slice cga cgn cgc, .int .i64 cmt, .string cmk, .string cmb, .int .i64 id, .int .i64 time, .slice ma mn mc, .int .i64 ct, .int .i64 cw, .int .i64 cn]) := Lib.hid (Blk.step (by repeat (first | (with_reducible exact Blk.new rfl) | ((with_reducible apply Blk.new); focus (first | rfl | (simp; done) | (simp; omega))) | (with_reducible apply Blk.drew) | (with_reducible apply Blk.alloc) | (with_reducible apply Blk.set_) | ((with_reducible apply Blk.far); rotate_left; focus (first | (simp; done) | (simp; omega) | omega)))) hb)
  replace SS : Hid (MdlR _ _ _) := mdlR_step SS.out (by repeat (first | (with_reducible exact Below.refl _ _) | (with_reducible exact Below.refl _ _) | (with_reducible apply Below.drew) | (with_reducible apply below_alloc) | ((with_reducible refine Below.alloc ?_ ?_ _); rotate_left; focus (first | (simp; done) | (simp; omega) | omega)) | ((with_reducible refine Below.setCell ?_ ?_ _); rotate_left; focus (first | (simp; done) | (simp; omega) | omega)))) hb
  replace SQ : Hid (MdlR _ _ _) := mdlR_step SQ.out (by repeat (first | (with_reducible exact Below.refl _ _) | (with_reducible exact Below.refl _ _) | (with_reducible apply Below.drew) | (with_reducible apply below_alloc) | ((with_reducible refine Below.alloc ?_ ?_ _); rotate_left; focus (first | (simp; done) | (simp; omega) | omega)) | ((with_reducible refine Below.setCell ?_ ?_ _); rotate_left; focus (first | (simp; done) | (simp; omega) | omega)))) hb
  have HLT := Lib.hid hgr
  clear hb hgr
  cases gr
  rotate_left
  · go_wp2_with fail
    go_ret
    exact ⟨rfl, HB.out⟩
  have HFW := Lib.hid (HLT.out (by first | rfl | trivial)).2
  have HF := Lib.hid (mfit_fit HFF.out (HLT.out (by first | rfl | trivial)))
  clear HLT HFF
  go_wp2_with fail
  refine Calls.mono (mdlGreat_any ?_ HSZ2.out HRW2.out) ?_
  · exact SQ.out.below (by repeat (first | (with_reducible exact Below.refl _ _) | (with_reducible exact Below.refl _ _) | (with_reducible apply Below.drew) | (with_reducible apply below_alloc) | ((with_reducible refine Below.alloc ?_ ?_ _); rotate_left; focus (first | (simp; done) | (simp; omega) | omega)) | ((with_reducible refine Below.setCell ?_ ?_ _); rotate_left; focus (first | (simp; done) | (simp; omega) | omega))))
  rintro e w2 ⟨⟨gr, rfl, -⟩, hb⟩
  replace HB : Hid (Below w.heap.size w _) := below_step (by repeat (first | (with_reducible exact HB.out) | (with_reducible exact Below.refl _ _) | (with_reducible apply Below.drew) | (with_reducible apply below_alloc) | ((with_reducible refine Below.alloc ?_ ?_ _); rotate_left; focus (first | (simp; done) | (simp; omega) | omega)) | ((with_reducible refine Below.setCell ?_ ?_ _); rotate_left; focus (first | (simp; done) | (simp; omega) | omega)))) hb
  clear a0 a1 az al
  replace HA : Hid (Blk _ (w.heap.size) _ _) := Blk.step (by repeat (first | (with_reducible exact HA.out) | ((with_reducible apply Blk.new); focus (first | rfl | (simp; done) | (simp; omega))) | (with_reducible apply Blk.drew) | (with_reducible apply Blk.alloc) | (with_reducible apply Blk.set_) | ((with_reducible apply Blk.far); rotate_left; focus (first | (simp; done) | (simp; omega) | omega)))) hb
  obtain ⟨a0, a1, az⟩ := cells2 HA.out
  have al := Blk.lt HA.out
  clear q0 q1 qz ql
  replace HQ : Hid (Blk _ (w.heap.size + 1) _ _) := Blk.step (by repeat (first | (with_reducible exact HQ.out) | ((with_reducible apply Blk.new); focus (first | rfl | (simp; done) | (simp; omega))) | (with_reducible apply Blk.drew) | (with_reducible apply Blk.alloc) | (with_reducible apply Blk.set_) | ((with_reducible apply Blk.far); rotate_left; focus (first | (simp; done) | (simp; omega) | omega)))) hb
  obtain ⟨q0, q1, qz⟩ := cells2 HQ.out
  have ql := Blk.lt HQ.out
  clear m0 m1 m2 m3 m4 mz ml
  replace HM : Hid (Blk _ (w.heap.size + 2) _ _) := Blk.step (by repeat (first | (with_reducible exact HM.out) | ((with_reducible apply Blk.new); focus (first | rfl | (simp; done) | (simp; omega))) | (with_reducible apply Blk.drew) | (with_reducible apply Blk.alloc) | (with_reducible apply Blk.set_) | ((with_reducible apply Blk.far); rotate_left; focus (first | (simp; done) | (simp; omega) | omega)))) hb
  obtain ⟨m0, m1, m2, m3, m4, mz⟩ := cells5 HM.out
  have ml := Blk.lt HM.out
  replace SS : Hid (MdlR _ _ _) := mdlR_step SS.out (by repeat (first | (with_reducible exact Below.refl _ _) | (with_reducible exact Below.refl _ _) | (with_reducible apply Below.drew) | (with_reducible apply below_alloc) | ((with_reducible refine Below.alloc ?_ ?_ _); rotate_left; focus (first | (simp; done) | (simp; omega) | omega)) | ((with_reducible refine Below.setCell ?_ ?_ _); rotate_left; focus (first | (simp; done) | (simp; omega) | omega)))) hb
  replace SQ : Hid (MdlR _ _ _) := mdlR_step SQ.out (by repeat (first | (with_reducible exact Below.refl _ _) | (with_reducible exact Below.refl _ _) | (with_reducible apply Below.drew) | (with_reducible apply below_alloc) | ((with_reducible refine Below.alloc ?_ ?_ _); rotate_left; focus (first | (simp; done) | (simp; omega) | omega)) | ((with_reducible refine Below.setCell ?_ ?_ _); rotate_left; focus (first | (simp; done) | (simp; omega) | omega)))) hb
  have HC2 : Hid (Blk w2 (w.heap.size + 3) 47 [.int .u8 kind, .int .i64 cid, .slice cga cgn cgc, .int .i64 cmt, .string cmk, .string cmb, .int .i64 id, .int .i64 time, .slice ma mn mc, .int .i64 ct, .int .i64 cw, .int .i64 cn]) := Lib.hid (Blk.step (by repeat (first | (with_reducible exact HC.out) | ((with_reducible apply Blk.new); focus (first | rfl | (simp; done) | (simp; omega))) | (with_reducible apply Blk.drew) | (with_reducible apply Blk.alloc) | (with_reducible apply Blk.set_) | ((with_reducible apply Blk.far); rotate_left; focus (first | (simp; done) | (simp; omega) | omega)))) hb)
  clear HC
  have HC := HC2
  clear HC2
  clear hb
  cases gr
  rotate_left
  · go_wp2_with fail
    go_ret
    exact ⟨rfl, HB.out⟩
  by_cases hkl : (5000 : Int) < (mk.size : Int)
  · go_wp2_with fail
    go_ret
    exact ⟨rfl, HB.out⟩
  by_cases hbl : (5000 : Int) < (mb.size : Int)
  · go_wp2_with fail
    go_ret
    exact ⟨rfl, HB.out⟩
  go_wp2_with fail
  refine Calls.mono (mdlRTwin_any ?_ HF.out) ?_
  · exact SS.out.below (by repeat (first | (with_reducible exact Below.refl _ _) | (with_reducible exact Below.refl _ _) | (with_reducible apply Below.drew) | (with_reducible apply below_alloc) | ((with_reducible refine Below.alloc ?_ ?_ _); rotate_left; focus (first | (simp; done) | (simp; omega) | omega)) | ((with_reducible refine Below.setCell ?_ ?_ _); rotate_left; focus (first | (simp; done) | (simp; omega) | omega))))
  rintro e w3 ⟨ta, tc, rfl, os, hb⟩
  obtain ⟨a3, cap3, b3, nc3, cc3, ev, -, -⟩ := os.reads.shape
  cases ev
  replace HB : Hid (Below w.heap.size w _) := below_step (by repeat (first | (with_reducible exact HB.out) | (with_reducible exact Below.refl _ _) | (with_reducible apply Below.drew) | (with_reducible apply below_alloc) | ((with_reducible refine Below.alloc ?_ ?_ _); rotate_left; focus (first | (simp; done) | (simp; omega) | omega)) | ((with_reducible refine Below.setCell ?_ ?_ _); rotate_left; focus (first | (simp; done) | (simp; omega) | omega)))) hb
  clear a0 a1 az al
  replace HA : Hid (Blk _ (w.heap.size) _ _) := Blk.step (by repeat (first | (with_reducible exact HA.out) | ((with_reducible apply Blk.new); focus (first | rfl | (simp; done) | (simp; omega))) | (with_reducible apply Blk.drew) | (with_reducible apply Blk.alloc) | (with_reducible apply Blk.set_) | ((with_reducible apply Blk.far); rotate_left; focus (first | (simp; done) | (simp; omega) | omega)))) hb
  obtain ⟨a0, a1, az⟩ := cells2 HA.out
  have al := Blk.lt HA.out
  clear q0 q1 qz ql
  replace HQ : Hid (Blk _ (w.heap.size + 1) _ _) := Blk.step (by repeat (first | (with_reducible exact HQ.out) | ((with_reducible apply Blk.new); focus (first | rfl | (simp; done) | (simp; omega))) | (with_reducible apply Blk.drew) | (with_reducible apply Blk.alloc) | (with_reducible apply Blk.set_) | ((with_reducible apply Blk.far); rotate_left; focus (first | (simp; done) | (simp; omega) | omega)))) hb
  obtain ⟨q0, q1, qz⟩ := cells2 HQ.out
  have ql := Blk.lt HQ.out
  clear m0 m1 m2 m3 m4 mz ml
  replace HM : Hid (Blk _ (w.heap.size + 2) _ _) := Blk.step (by repeat (first | (with_reducible exact HM.out) | ((with_reducible apply Blk.new); focus (first | rfl | (simp; done) | (simp; omega))) | (with_reducible apply Blk.drew) | (with_reducible apply Blk.alloc) | (with_reducible apply Blk.set_) | ((with_reducible apply Blk.far); rotate_left; focus (first | (simp; done) | (simp; omega) | omega)))) hb
  obtain ⟨m0, m1, m2, m3, m4, mz⟩ := cells5 HM.out
  have ml := Blk.lt HM.out
  replace SS : Hid (MdlR _ _ _) := mdlR_step SS.out (by repeat (first | (with_reducible exact Below.refl _ _) | (with_reducible exact Below.refl _ _) | (with_reducible apply Below.drew) | (with_reducible apply below_alloc) | ((with_reducible refine Below.alloc ?_ ?_ _); rotate_left; focus (first | (simp; done) | (simp; omega) | omega)) | ((with_reducible refine Below.setCell ?_ ?_ _); rotate_left; focus (first | (simp; done) | (simp; omega) | omega)))) hb
  replace SQ : Hid (MdlR _ _ _) := mdlR_step SQ.out (by repeat (first | (with_reducible exact Below.refl _ _) | (with_reducible exact Below.refl _ _) | (with_reducible apply Below.drew) | (with_reducible apply below_alloc) | ((with_reducible refine Below.alloc ?_ ?_ _); rotate_left; focus (first | (simp; done) | (simp; omega) | omega)) | ((with_reducible refine Below.setCell ?_ ?_ _); rotate_left; focus (first | (simp; done) | (simp; omega) | omega)))) hb
  have HC3 : Hid (Blk w3 (w.heap.size + 3) 47 [.int .u8 kind, .int .i64 cid, .slice cga cgn cgc, .int .i64 cmt, .string cmk, .string cmb, .int .i64 id, .int .i64 time, .slice ma mn mc, .int .i64 ct, .int .i64 cw, .int .i64 cn]) := Lib.hid (Blk.step (by repeat (first | (with_reducible exact HC.out) | ((with_reducible apply Blk.new); focus (first | rfl | (simp; done) | (simp; omega))) | (with_reducible apply Blk.drew) | (with_reducible apply Blk.alloc) | (with_reducible apply Blk.set_) | ((with_reducible apply Blk.far); rotate_left; focus (first | (simp; done) | (simp; omega) | omega)))) hb)
  clear HC
  have HC := HC3
  clear HC3
  have SO : Hid (MdlR w3 _ s) := Lib.hid os.reads
  have SO3 := SO
  have s3 : w.heap.size + 2 < w3.heap.size := ml
  clear hb os
  go_wp2_with fail
  refine Calls.mono (mdlPut_any mid mt mk mb ?_ HFW.out PUT.out) ?_
  · exact SO.out.below (by repeat (first | (with_reducible exact Below.refl _ _) | (with_reducible exact Below.refl _ _) | (with_reducible apply Below.drew) | (with_reducible apply below_alloc) | ((with_reducible refine Below.alloc ?_ ?_ _); rotate_left; focus (first | (simp; done) | (simp; omega) | omega)) | ((with_reducible refine Below.setCell ?_ ?_ _); rotate_left; focus (first | (simp; done) | (simp; omega) | omega))))
  rintro e w4 ⟨ta, tc, rfl, os, hb⟩
  obtain ⟨a4, cap4, b4, nc4, cc4, ev, -, -⟩ := os.reads.shape
  cases ev
  replace HB : Hid (Below w.heap.size w _) := below_step (by repeat (first | (with_reducible exact HB.out) | (with_reducible exact Below.refl _ _) | (with_reducible apply Below.drew) | (with_reducible apply below_alloc) | ((with_reducible refine Below.alloc ?_ ?_ _); rotate_left; focus (first | (simp; done) | (simp; omega) | omega)) | ((with_reducible refine Below.setCell ?_ ?_ _); rotate_left; focus (first | (simp; done) | (simp; omega) | omega)))) hb
  clear a0 a1 az al
  replace HA : Hid (Blk _ (w.heap.size) _ _) := Blk.step (by repeat (first | (with_reducible exact HA.out) | ((with_reducible apply Blk.new); focus (first | rfl | (simp; done) | (simp; omega))) | (with_reducible apply Blk.drew) | (with_reducible apply Blk.alloc) | (with_reducible apply Blk.set_) | ((with_reducible apply Blk.far); rotate_left; focus (first | (simp; done) | (simp; omega) | omega)))) hb
  obtain ⟨a0, a1, az⟩ := cells2 HA.out
  have al := Blk.lt HA.out
  clear q0 q1 qz ql
  replace HQ : Hid (Blk _ (w.heap.size + 1) _ _) := Blk.step (by repeat (first | (with_reducible exact HQ.out) | ((with_reducible apply Blk.new); focus (first | rfl | (simp; done) | (simp; omega))) | (with_reducible apply Blk.drew) | (with_reducible apply Blk.alloc) | (with_reducible apply Blk.set_) | ((with_reducible apply Blk.far); rotate_left; focus (first | (simp; done) | (simp; omega) | omega)))) hb
  obtain ⟨q0, q1, qz⟩ := cells2 HQ.out
  have ql := Blk.lt HQ.out
  clear m0 m1 m2 m3 m4 mz ml
  replace HM : Hid (Blk _ (w.heap.size + 2) _ _) := Blk.step (by repeat (first | (with_reducible exact HM.out) | ((with_reducible apply Blk.new); focus (first | rfl | (simp; done) | (simp; omega))) | (with_reducible apply Blk.drew) | (with_reducible apply Blk.alloc) | (with_reducible apply Blk.set_) | ((with_reducible apply Blk.far); rotate_left; focus (first | (simp; done) | (simp; omega) | omega)))) hb
  obtain ⟨m0, m1, m2, m3, m4, mz⟩ := cells5 HM.out
  have ml := Blk.lt HM.out
  replace SS : Hid (MdlR _ _ _) := mdlR_step SS.out (by repeat (first | (with_reducible exact Below.refl _ _) | (with_reducible exact Below.refl _ _) | (with_reducible apply Below.drew) | (with_reducible apply below_alloc) | ((with_reducible refine Below.alloc ?_ ?_ _); rotate_left; focus (first | (simp; done) | (simp; omega) | omega)) | ((with_reducible refine Below.setCell ?_ ?_ _); rotate_left; focus (first | (simp; done) | (simp; omega) | omega)))) hb
  replace SQ : Hid (MdlR _ _ _) := mdlR_step SQ.out (by repeat (first | (with_reducible exact Below.refl _ _) | (with_reducible exact Below.refl _ _) | (with_reducible apply Below.drew) | (with_reducible apply below_alloc) | ((with_reducible refine Below.alloc ?_ ?_ _); rotate_left; focus (first | (simp; done) | (simp; omega) | omega)) | ((with_reducible refine Below.setCell ?_ ?_ _); rotate_left; focus (first | (simp; done) | (simp; omega) | omega)))) hb
  replace SO : Hid (MdlR _ _ _) := mdlR_step SO.out (by repeat (first | (with_reducible exact Below.refl _ _) | (with_reducible exact Below.refl _ _) | (with_reducible apply Below.drew) | (with_reducible apply below_alloc) | ((with_reducible refine Below.alloc ?_ ?_ _); rotate_left; focus (first | (simp; done) | (simp; omega) | omega)) | ((with_reducible refine Below.setCell ?_ ?_ _); rotate_left; focus (first | (simp; done) | (simp; omega) | omega)))) hb
  have HC4 : Hid (Blk w4 (w.heap.size + 3) 47 [.int .u8 kind, .int .i64 cid, .slice cga cgn cgc, .int .i64 cmt, .string cmk, .string cmb, .int .i64 id, .int .i64 time, .slice ma mn mc, .int .i64 ct, .int .i64 cw, .int .i64 cn]) := Lib.hid (Blk.step (by repeat (first | (with_reducible exact HC.out) | ((with_reducible apply Blk.new); focus (first | rfl | (simp; done) | (simp; omega))) | (with_reducible apply Blk.drew) | (with_reducible apply Blk.alloc) | (with_reducible apply Blk.set_) | ((with_reducible apply Blk.far); rotate_left; focus (first | (simp; done) | (simp; omega) | omega)))) hb)
  clear HC
  have HC := HC4
  clear HC4
  have O : Blk _ (w3.heap.size) _ _ := Blk.step (by repeat (first | ((with_reducible apply Blk.new); focus (first | rfl | (simp; done) | (simp; omega))) | (with_reducible apply Blk.drew) | (with_reducible apply Blk.alloc) | (with_reducible apply Blk.set_) | ((with_reducible apply Blk.far); rotate_left; focus (first | (simp; done) | (simp; omega) | omega)))) hb
  obtain ⟨o0, o1, oz⟩ := cells2 O
  have ol := Blk.lt O
  have HO := Lib.hid O
  clear O
  have H3 : Hid (Below w3.heap.size w3 _) := below_step (by repeat (first | (with_reducible exact Below.refl _ _) | (with_reducible exact Below.refl _ _) | (with_reducible apply Below.drew) | (with_reducible apply below_alloc) | ((with_reducible refine Below.alloc ?_ ?_ _); rotate_left; focus (first | (simp; done) | (simp; omega) | omega)) | ((with_reducible refine Below.setCell ?_ ?_ _); rotate_left; focus (first | (simp; done) | (simp; omega) | omega)))) hb
  have SA : Hid (MdlR w4 _ u) := Lib.hid os.reads
  have KA : Hid (ShM w4 (w3.heap.size + 1) w4.heap.size _) := Lib.hid (by have h := os.sh; simpa using h)
  have s4 : w3.heap.size < w4.heap.size := ol
  clear hb os
  go_wp2_with fail
  refine Calls.mono (mdlRPut_any mid mt mk mb ?_ PUT.out) ?_
  · exact SS.out.below (by repeat (first | (with_reducible exact Below.refl _ _) | (with_reducible exact Below.refl _ _) | (with_reducible apply Below.drew) | (with_reducible apply below_alloc) | ((with_reducible refine Below.alloc ?_ ?_ _); rotate_left; focus (first | (simp; done) | (simp; omega) | omega)) | ((with_reducible refine Below.setCell ?_ ?_ _); rotate_left; focus (first | (simp; done) | (simp; omega) | omega))))
  rintro e w5 ⟨ta, tc, rfl, os, hb⟩
  obtain ⟨a5, cap5, b5, nc5, cc5, ev, -, -⟩ := os.reads.shape
  cases ev
  replace HB : Hid (Below w.heap.size w _) := below_step (by repeat (first | (with_reducible exact HB.out) | (with_reducible exact Below.refl _ _) | (with_reducible apply Below.drew) | (with_reducible apply below_alloc) | ((with_reducible refine Below.alloc ?_ ?_ _); rotate_left; focus (first | (simp; done) | (simp; omega) | omega)) | ((with_reducible refine Below.setCell ?_ ?_ _); rotate_left; focus (first | (simp; done) | (simp; omega) | omega)))) hb
  clear a0 a1 az al
  replace HA : Hid (Blk _ (w.heap.size) _ _) := Blk.step (by repeat (first | (with_reducible exact HA.out) | ((with_reducible apply Blk.new); focus (first | rfl | (simp; done) | (simp; omega))) | (with_reducible apply Blk.drew) | (with_reducible apply Blk.alloc) | (with_reducible apply Blk.set_) | ((with_reducible apply Blk.far); rotate_left; focus (first | (simp; done) | (simp; omega) | omega)))) hb
  obtain ⟨a0, a1, az⟩ := cells2 HA.out
  have al := Blk.lt HA.out
  clear q0 q1 qz ql
  replace HQ : Hid (Blk _ (w.heap.size + 1) _ _) := Blk.step (by repeat (first | (with_reducible exact HQ.out) | ((with_reducible apply Blk.new); focus (first | rfl | (simp; done) | (simp; omega))) | (with_reducible apply Blk.drew) | (with_reducible apply Blk.alloc) | (with_reducible apply Blk.set_) | ((with_reducible apply Blk.far); rotate_left; focus (first | (simp; done) | (simp; omega) | omega)))) hb
  obtain ⟨q0, q1, qz⟩ := cells2 HQ.out
  have ql := Blk.lt HQ.out
  clear m0 m1 m2 m3 m4 mz ml
  replace HM : Hid (Blk _ (w.heap.size + 2) _ _) := Blk.step (by repeat (first | (with_reducible exact HM.out) | ((with_reducible apply Blk.new); focus (first | rfl | (simp; done) | (simp; omega))) | (with_reducible apply Blk.drew) | (with_reducible apply Blk.alloc) | (with_reducible apply Blk.set_) | ((with_reducible apply Blk.far); rotate_left; focus (first | (simp; done) | (simp; omega) | omega)))) hb
  obtain ⟨m0, m1, m2, m3, m4, mz⟩ := cells5 HM.out
  have ml := Blk.lt HM.out
  clear o0 o1 oz ol
  replace HO : Hid (Blk _ (w3.heap.size) _ _) := Blk.step (by repeat (first | (with_reducible exact HO.out) | ((with_reducible apply Blk.new); focus (first | rfl | (simp; done) | (simp; omega))) | (with_reducible apply Blk.drew) | (with_reducible apply Blk.alloc) | (with_reducible apply Blk.set_) | ((with_reducible apply Blk.far); rotate_left; focus (first | (simp; done) | (simp; omega) | omega)))) hb
  obtain ⟨o0, o1, oz⟩ := cells2 HO.out
  have ol := Blk.lt HO.out
  replace SS : Hid (MdlR _ _ _) := mdlR_step SS.out (by repeat (first | (with_reducible exact Below.refl _ _) | (with_reducible exact Below.refl _ _) | (with_reducible apply Below.drew) | (with_reducible apply below_alloc) | ((with_reducible refine Below.alloc ?_ ?_ _); rotate_left; focus (first | (simp; done) | (simp; omega) | omega)) | ((with_reducible refine Below.setCell ?_ ?_ _); rotate_left; focus (first | (simp; done) | (simp; omega) | omega)))) hb
  replace SQ : Hid (MdlR _ _ _) := mdlR_step SQ.out (by repeat (first | (with_reducible exact Below.refl _ _) | (with_reducible exact Below.refl _ _) | (with_reducible apply Below.drew) | (with_reducible apply below_alloc) | ((with_reducible refine Below.alloc ?_ ?_ _); rotate_left; focus (first | (simp; done) | (simp; omega) | omega)) | ((with_reducible refine Below.setCell ?_ ?_ _); rotate_left; focus (first | (simp; done) | (simp; omega) | omega)))) hb
  replace SO : Hid (MdlR _ _ _) := mdlR_step SO.out (by repeat (first | (with_reducible exact Below.refl _ _) | (with_reducible exact Below.refl _ _) | (with_reducible apply Below.drew) | (with_reducible apply below_alloc) | ((with_reducible refine Below.alloc ?_ ?_ _); rotate_left; focus (first | (simp; done) | (simp; omega) | omega)) | ((with_reducible refine Below.setCell ?_ ?_ _); rotate_left; focus (first | (simp; done) | (simp; omega) | omega)))) hb
  replace SA : Hid (MdlR _ _ _) := mdlR_step SA.out (by repeat (first | (with_reducible exact Below.refl _ _) | (with_reducible exact Below.refl _ _) | (with_reducible apply Below.drew) | (with_reducible apply below_alloc) | ((with_reducible refine Below.alloc ?_ ?_ _); rotate_left; focus (first | (simp; done) | (simp; omega) | omega)) | ((with_reducible refine Below.setCell ?_ ?_ _); rotate_left; focus (first | (simp; done) | (simp; omega) | omega)))) hb
  replace H3 : Hid (Below w3.heap.size w3 _) := below_step (by repeat (first | (with_reducible exact H3.out) | (with_reducible exact Below.refl _ _) | (with_reducible apply Below.drew) | (with_reducible apply below_alloc) | ((with_reducible refine Below.alloc ?_ ?_ _); rotate_left; focus (first | (simp; done) | (simp; omega) | omega)) | ((with_reducible refine Below.setCell ?_ ?_ _); rotate_left; focus (first | (simp; done) | (simp; omega) | omega)))) hb
  have HC5 : Hid (Blk w5 (w.heap.size + 3) 47 [.int .u8 kind, .int .i64 cid, .slice cga cgn cgc, .int .i64 cmt, .string cmk, .string cmb, .int .i64 id, .int .i64 time, .slice ma mn mc, .int .i64 ct, .int .i64 cw, .int .i64 cn]) := Lib.hid (Blk.step (by repeat (first | (with_reducible exact HC.out) | ((with_reducible apply Blk.new); focus (first | rfl | (simp; done) | (simp; omega))) | (with_reducible apply Blk.drew) | (with_reducible apply Blk.alloc) | (with_reducible apply Blk.set_) | ((with_reducible apply Blk.far); rotate_left; focus (first | (simp; done) | (simp; omega) | omega)))) hb)
  clear HC
  have HC := HC5
  clear HC5
  have U : Blk _ (w4.heap.size) _ _ := Blk.step (by repeat (first | ((with_reducible apply Blk.new); focus (first | rfl | (simp; done) | (simp; omega))) | (with_reducible apply Blk.drew) | (with_reducible apply Blk.alloc) | (with_reducible apply Blk.set_) | ((with_reducible apply Blk.far); rotate_left; focus (first | (simp; done) | (simp; omega) | omega)))) hb
  obtain ⟨u0, u1, uz⟩ := cells2 U
  have ul := Blk.lt U
  have HU := Lib.hid U
  clear U
  replace KA : Hid (ShM _ (w3.heap.size + 1) w4.heap.size _) := Lib.hid (KA.out.step (by omega) ((below_alloc (Below.refl _ _)).trans (hb.mono (by simp))))
  have SB : Hid (MdlR w5 _ u) := Lib.hid os.reads
  have s5 : w4.heap.size < w5.heap.size := ul
  have cl := HC.out.lt
  obtain ⟨⟨⟨d0, d1, d2, d3⟩, ⟨d4, d5, d6, d7⟩, d8, d9, d10, d11⟩, dz⟩ := cells12 HC.out
  clear hb os
  go_wp2_with fail
  refine Calls.mono (mdlDo_any ct cw cn ?_ HFW.out DO.out) ?_
  · exact SO.out.below (by repeat (first | (with_reducible exact Below.refl _ _) | (with_reducible exact Below.refl _ _) | (with_reducible apply Below.drew) | (with_reducible apply below_alloc) | ((with_reducible refine Below.alloc ?_ ?_ _); rotate_left; focus (first | (simp; done) | (simp; omega) | omega)) | ((with_reducible refine Below.setCell ?_ ?_ _); rotate_left; focus (first | (simp; done) | (simp; omega) | omega))))
  rintro e w6 ⟨ta, tc, rfl, os, hb⟩
  obtain ⟨a6, cap6, b6, nc6, cc6, ev, -, -⟩ := os.reads.shape
  cases ev
  clear d0 d1 d2 d3 d4 d5 d6 d7 d8 d9 d10 d11 dz cl
  replace HB : Hid (Below w.heap.size w _) := below_step (by repeat (first | (with_reducible exact HB.out) | (with_reducible exact Below.refl _ _) | (with_reducible apply Below.drew) | (with_reducible apply below_alloc) | ((with_reducible refine Below.alloc ?_ ?_ _); rotate_left; focus (first | (simp; done) | (simp; omega) | omega)) | ((with_reducible refine Below.setCell ?_ ?_ _); rotate_left; focus (first | (simp; done) | (simp; omega) | omega)))) hb
  clear a0 a1 az al
  replace HA : Hid (Blk _ (w.heap.size) _ _) := Blk.step (by repeat (first | (with_reducible exact HA.out) | ((with_reducible apply Blk.new); focus (first | rfl | (simp; done) | (simp; omega))) | (with_reducible apply Blk.drew) | (with_reducible apply Blk.alloc) | (with_reducible apply Blk.set_) | ((with_reducible apply Blk.far); rotate_left; focus (first | (simp; done) | (simp; omega) | omega)))) hb
  obtain ⟨a0, a1, az⟩ := cells2 HA.out
  have al := Blk.lt HA.out
  clear q0 q1 qz ql
  replace HQ : Hid (Blk _ (w.heap.size + 1) _ _) := Blk.step (by repeat (first | (with_reducible exact HQ.out) | ((with_reducible apply Blk.new); focus (first | rfl | (simp; done) | (simp; omega))) | (with_reducible apply Blk.drew) | (with_reducible apply Blk.alloc) | (with_reducible apply Blk.set_) | ((with_reducible apply Blk.far); rotate_left; focus (first | (simp; done) | (simp; omega) | omega)))) hb
  obtain ⟨q0, q1, qz⟩ := cells2 HQ.out
  have ql := Blk.lt HQ.out
  clear m0 m1 m2 m3 m4 mz ml
  replace HM : Hid (Blk _ (w.heap.size + 2) _ _) := Blk.step (by repeat (first | (with_reducible exact HM.out) | ((with_reducible apply Blk.new); focus (first | rfl | (simp; done) | (simp; omega))) | (with_reducible apply Blk.drew) | (with_reducible apply Blk.alloc) | (with_reducible apply Blk.set_) | ((with_reducible apply Blk.far); rotate_left; focus (first | (simp; done) | (simp; omega) | omega)))) hb
  obtain ⟨m0, m1, m2, m3, m4, mz⟩ := cells5 HM.out
  have ml := Blk.lt HM.out
  clear o0 o1 oz ol
  replace HO : Hid (Blk _ (w3.heap.size) _ _) := Blk.step (by repeat (first | (with_reducible exact HO.out) | ((with_reducible apply Blk.new); focus (first | rfl | (simp; done) | (simp; omega))) | (with_reducible apply Blk.drew) | (with_reducible apply Blk.alloc) | (with_reducible apply Blk.set_) | ((with_reducible apply Blk.far); rotate_left; focus (first | (simp; done) | (simp; omega) | omega)))) hb
  obtain ⟨o0, o1, oz⟩ := cells2 HO.out
  have ol := Blk.lt HO.out
  clear u0 u1 uz ul
  replace HU : Hid (Blk _ (w4.heap.size) _ _) := Blk.step (by repeat (first | (with_reducible exact HU.out) | ((with_reducible apply Blk.new); focus (first | rfl | (simp; done) | (simp; omega))) | (with_reducible apply Blk.drew) | (with_reducible apply Blk.alloc) | (with_reducible apply Blk.set_) | ((with_reducible apply Blk.far); rotate_left; focus (first | (simp; done) | (simp; omega) | omega)))) hb
  obtain ⟨u0, u1, uz⟩ := cells2 HU.out
  have ul := Blk.lt HU.out
  replace SS : Hid (MdlR _ _ _) := mdlR_step SS.out (by repeat (first | (with_reducible exact Below.refl _ _) | (with_reducible exact Below.refl _ _) | (with_reducible apply Below.drew) | (with_reducible apply below_alloc) | ((with_reducible refine Below.alloc ?_ ?_ _); rotate_left; focus (first | (simp; done) | (simp; omega) | omega)) | ((with_reducible refine Below.setCell ?_ ?_ _); rotate_left; focus (first | (simp; done) | (simp; omega) | omega)))) hb
  replace SQ : Hid (MdlR _ _ _) := mdlR_step SQ.out (by repeat (first | (with_reducible exact Below.refl _ _) | (with_reducible exact Below.refl _ _) | (with_reducible apply Below.drew) | (with_reducible apply below_alloc) | ((with_reducible refine Below.alloc ?_ ?_ _); rotate_left; focus (first | (simp; done) | (simp; omega) | omega)) | ((with_reducible refine Below.setCell ?_ ?_ _); rotate_left; focus (first | (simp; done) | (simp; omega) | omega)))) hb
  replace SO : Hid (MdlR _ _ _) := mdlR_step SO.out (by repeat (first | (with_reducible exact Below.refl _ _) | (with_reducible exact Below.refl _ _) | (with_reducible apply Below.drew) | (with_reducible apply below_alloc) | ((with_reducible refine Below.alloc ?_ ?_ _); rotate_left; focus (first | (simp; done) | (simp; omega) | omega)) | ((with_reducible refine Below.setCell ?_ ?_ _); rotate_left; focus (first | (simp; done) | (simp; omega) | omega)))) hb
  replace SA : Hid (MdlR _ _ _) := mdlR_step SA.out (by repeat (first | (with_reducible exact Below.refl _ _) | (with_reducible exact Below.refl _ _) | (with_reducible apply Below.drew) | (with_reducible apply below_alloc) | ((with_reducible refine Below.alloc ?_ ?_ _); rotate_left; focus (first | (simp; done) | (simp; omega) | omega)) | ((with_reducible refine Below.setCell ?_ ?_ _); rotate_left; focus (first | (simp; done) | (simp; omega) | omega)))) hb
  replace SB : Hid (MdlR _ _ _) := mdlR_step SB.out (by repeat (first | (with_reducible exact Below.refl _ _) | (with_reducible exact Below.refl _ _) | (with_reducible apply Below.drew) | (with_reducible apply below_alloc) | ((with_reducible refine Below.alloc ?_ ?_ _); rotate_left; focus (first | (simp; done) | (simp; omega) | omega)) | ((with_reducible refine Below.setCell ?_ ?_ _); rotate_left; focus (first | (simp; done) | (simp; omega) | omega)))) hb
  replace H3 : Hid (Below w3.heap.size w3 _) := below_step (by repeat (first | (with_reducible exact H3.out) | (with_reducible exact Below.refl _ _) | (with_reducible apply Below.drew) | (with_reducible apply below_alloc) | ((with_reducible refine Below.alloc ?_ ?_ _); rotate_left; focus (first | (simp; done) | (simp; omega) | omega)) | ((with_reducible refine Below.setCell ?_ ?_ _); rotate_left; focus (first | (simp; done) | (simp; omega) | omega)))) hb
  have HC6 : Hid (Blk w6 (w.heap.size + 3) 47 [.int .u8 kind, .int .i64 cid, .slice cga cgn cgc, .int .i64 cmt, .string cmk, .string cmb, .int .i64 id, .int .i64 time, .slice ma mn mc, .int .i64 ct, .int .i64 cw, .int .i64 cn]) := Lib.hid (Blk.step (by repeat (first | (with_reducible exact HC.out) | ((with_reducible apply Blk.new); focus (first | rfl | (simp; done) | (simp; omega))) | (with_reducible apply Blk.drew) | (with_reducible apply Blk.alloc) | (with_reducible apply Blk.set_) | ((with_reducible apply Blk.far); rotate_left; focus (first | (simp; done) | (simp; omega) | omega)))) hb)
  clear HC
  have HC := HC6
  clear HC6
  have V : Blk _ (w5.heap.size) _ _ := Blk.step (by repeat (first | ((with_reducible apply Blk.new); focus (first | rfl | (simp; done) | (simp; omega))) | (with_reducible apply Blk.drew) | (with_reducible apply Blk.alloc) | (with_reducible apply Blk.set_) | ((with_reducible apply Blk.far); rotate_left; focus (first | (simp; done) | (simp; omega) | omega)))) hb
  obtain ⟨v0, v1, vz⟩ := cells2 V
  have vl := Blk.lt V
  have HV := Lib.hid V
  clear V
  replace KA : Hid (ShM _ (w3.heap.size + 1) w4.heap.size _) := Lib.hid (KA.out.step (by omega) ((below_alloc (Below.refl _ _)).trans (hb.mono (by simp))))
  have SX : Hid (MdlR w6 _ d) := Lib.hid os.reads
  have KX : Hid (ShM w6 (w5.heap.size + 1) w6.heap.size _) := Lib.hid (by have h := os.sh; simpa using h)
  have s6 : w5.heap.size < w6.heap.size := vl
  have cl := HC.out.lt
  obtain ⟨⟨⟨d0, d1, d2, d3⟩, ⟨d4, d5, d6, d7⟩, d8, d9, d10, d11⟩, dz⟩ := cells12 HC.out
  clear hb os
  go_wp2_with fail
  refine Calls.mono (mdlRDo_any ct cw cn ?_ DO.out) ?_
  · exact SS.out.below (by repeat (first | (with_reducible exact Below.refl _ _) | (with_reducible exact Below.refl _ _) | (with_reducible apply Below.drew) | (with_reducible apply below_alloc) | ((with_reducible refine Below.alloc ?_ ?_ _); rotate_left; focus (first | (simp; done) | (simp; omega) | omega)) | ((with_reducible refine Below.setCell ?_ ?_ _); rotate_left; focus (first | (simp; done) | (simp; omega) | omega))))
  rintro e w7 ⟨ta, tc, rfl, os, hb⟩
  obtain ⟨a7, cap7, b7, nc7, cc7, ev, -, -⟩ := os.reads.shape
  cases ev
  clear d0 d1 d2 d3 d4 d5 d6 d7 d8 d9 d10 d11 dz cl m0 m1 m2 m3 m4 mz ml HM HC
  replace HB : Hid (Below w.heap.size w _) := below_step (by repeat (first | (with_reducible exact HB.out) | (with_reducible exact Below.refl _ _) | (with_reducible apply Below.drew) | (with_reducible apply below_alloc) | ((with_reducible refine Below.alloc ?_ ?_ _); rotate_left; focus (first | (simp; done) | (simp; omega) | omega)) | ((with_reducible refine Below.setCell ?_ ?_ _); rotate_left; focus (first | (simp; done) | (simp; omega) | omega)))) hb
  clear a0 a1 az al
  replace HA : Hid (Blk _ (w.heap.size) _ _) := Blk.step (by repeat (first | (with_reducible exact HA.out) | ((with_reducible apply Blk.new); focus (first | rfl | (simp; done) | (simp; omega))) | (with_reducible apply Blk.drew) | (with_reducible apply Blk.alloc) | (with_reducible apply Blk.set_) | ((with_reducible apply Blk.far); rotate_left; focus (first | (simp; done) | (simp; omega) | omega)))) hb
  obtain ⟨a0, a1, az⟩ := cells2 HA.out
  have al := Blk.lt HA.out
  clear q0 q1 qz ql
  replace HQ : Hid (Blk _ (w.heap.size + 1) _ _) := Blk.step (by repeat (first | (with_reducible exact HQ.out) | ((with_reducible apply Blk.new); focus (first | rfl | (simp; done) | (simp; omega))) | (with_reducible apply Blk.drew) | (with_reducible apply Blk.alloc) | (with_reducible apply Blk.set_) | ((with_reducible apply Blk.far); rotate_left; focus (first | (simp; done) | (simp; omega) | omega)))) hb
  obtain ⟨q0, q1, qz⟩ := cells2 HQ.out
  have ql := Blk.lt HQ.out
  clear o0 o1 oz ol
  replace HO : Hid (Blk _ (w3.heap.size) _ _) := Blk.step (by repeat (first | (with_reducible exact HO.out) | ((with_reducible apply Blk.new); focus (first | rfl | (simp; done) | (simp; omega))) | (with_reducible apply Blk.drew) | (with_reducible apply Blk.alloc) | (with_reducible apply Blk.set_) | ((with_reducible apply Blk.far); rotate_left; focus (first | (simp; done) | (simp; omega) | omega)))) hb
  obtain ⟨o0, o1, oz⟩ := cells2 HO.out
  have ol := Blk.lt HO.out
  clear u0 u1 uz ul
  replace HU : Hid (Blk _ (w4.heap.size) _ _) := Blk.step (by repeat (first | (with_reducible exact HU.out) | ((with_reducible apply Blk.new); focus (first | rfl | (simp; done) | (simp; omega))) | (with_reducible apply Blk.drew) | (with_reducible apply Blk.alloc) | (with_reducible apply Blk.set_) | ((with_reducible apply Blk.far); rotate_left; focus (first | (simp; done) | (simp; omega) | omega)))) hb
  obtain ⟨u0, u1, uz⟩ := cells2 HU.out
  have ul := Blk.lt HU.out
  clear v0 v1 vz vl
  replace HV : Hid (Blk _ (w5.heap.size) _ _) := Blk.step (by repeat (first | (with_reducible exact HV.out) | ((with_reducible apply Blk.new); focus (first | rfl | (simp; done) | (simp; omega))) | (with_reducible apply Blk.drew) | (with_reducible apply Blk.alloc) | (with_reducible apply Blk.set_) | ((with_reducible apply Blk.far); rotate_left; focus (first | (simp; done) | (simp; omega) | omega)))) hb
  obtain ⟨v0, v1, vz⟩ := cells2 HV.out
  have vl := Blk.lt HV.out
  replace SS : Hid (MdlR _ _ _) := mdlR_step SS.out (by repeat (first | (with_reducible exact Below.refl _ _) | (with_reducible exact Below.refl _ _) | (with_reducible apply Below.drew) | (with_reducible apply below_alloc) | ((with_reducible refine Below.alloc ?_ ?_ _); rotate_left; focus (first | (simp; done) | (simp; omega) | omega)) | ((with_reducible refine Below.setCell ?_ ?_ _); rotate_left; focus (first | (simp; done) | (simp; omega) | omega)))) hb
  replace SQ : Hid (MdlR _ _ _) := mdlR_step SQ.out (by repeat (first | (with_reducible exact Below.refl _ _) | (with_reducible exact Below.refl _ _) | (with_reducible apply Below.drew) | (with_reducible apply below_alloc) | ((with_reducible refine Below.alloc ?_ ?_ _); rotate_left; focus (first | (simp; done) | (simp; omega) | omega)) | ((with_reducible refine Below.setCell ?_ ?_ _); rotate_left; focus (first | (simp; done) | (simp; omega) | omega)))) hb
  replace SO : Hid (MdlR _ _ _) := mdlR_step SO.out (by repeat (first | (with_reducible exact Below.refl _ _) | (with_reducible exact Below.refl _ _) | (with_reducible apply Below.drew) | (with_reducible apply below_alloc) | ((with_reducible refine Below.alloc ?_ ?_ _); rotate_left; focus (first | (simp; done) | (simp; omega) | omega)) | ((with_reducible refine Below.setCell ?_ ?_ _); rotate_left; focus (first | (simp; done) | (simp; omega) | omega)))) hb
  replace SA : Hid (MdlR _ _ _) := mdlR_step SA.out (by repeat (first | (with_reducible exact Below.refl _ _) | (with_reducible exact Below.refl _ _) | (with_reducible apply Below.drew) | (with_reducible apply below_alloc) | ((with_reducible refine Below.alloc ?_ ?_ _); rotate_left; focus (first | (simp; done) | (simp; omega) | omega)) | ((with_reducible refine Below.setCell ?_ ?_ _); rotate_left; focus (first | (simp; done) | (simp; omega) | omega)))) hb
  replace SB : Hid (MdlR _ _ _) := mdlR_step SB.out (by repeat (first | (with_reducible exact Below.refl _ _) | (with_reducible exact Below.refl _ _) | (with_reducible apply Below.drew) | (with_reducible apply below_alloc) | ((with_reducible refine Below.alloc ?_ ?_ _); rotate_left; focus (first | (simp; done) | (simp; omega) | omega)) | ((with_reducible refine Below.setCell ?_ ?_ _); rotate_left; focus (first | (simp; done) | (simp; omega) | omega)))) hb
  replace SX : Hid (MdlR _ _ _) := mdlR_step SX.out (by repeat (first | (with_reducible exact Below.refl _ _) | (with_reducible exact Below.refl _ _) | (with_reducible apply Below.drew) | (with_reducible apply below_alloc) | ((with_reducible refine Below.alloc ?_ ?_ _); rotate_left; focus (first | (simp; done) | (simp; omega) | omega)) | ((with_reducible refine Below.setCell ?_ ?_ _); rotate_left; focus (first | (simp; done) | (simp; omega) | omega)))) hb
  replace H3 : Hid (Below w3.heap.size w3 _) := below_step (by repeat (first | (with_reducible exact H3.out) | (with_reducible exact Below.refl _ _) | (with_reducible apply Below.drew) | (with_reducible apply below_alloc) | ((with_reducible refine Below.alloc ?_ ?_ _); rotate_left; focus (first | (simp; done) | (simp; omega) | omega)) | ((with_reducible refine Below.setCell ?_ ?_ _); rotate_left; focus (first | (simp; done) | (simp; omega) | omega)))) hb
  have X : Blk _ (w6.heap.size) _ _ := Blk.step (by repeat (first | ((with_reducible apply Blk.new); focus (first | rfl | (simp; done) | (simp; omega))) | (with_reducible apply Blk.drew) | (with_reducible apply Blk.alloc) | (with_reducible apply Blk.set_) | ((with_reducible apply Blk.far); rotate_left; focus (first | (simp; done) | (simp; omega) | omega)))) hb
  obtain ⟨x0, x1, xz⟩ := cells2 X
  have xl := Blk.lt X
  have HX := Lib.hid X
  clear X
  replace KA : Hid (ShM _ (w3.heap.size + 1) w4.heap.size _) := Lib.hid (KA.out.step (by omega) ((below_alloc (Below.refl _ _)).trans (hb.mono (by simp))))
  replace KX : Hid (ShM _ (w5.heap.size + 1) w6.heap.size _) := Lib.hid (KX.out.step (by omega) ((below_alloc (Below.refl _ _)).trans (hb.mono (by simp))))
  have SY : Hid (MdlR w7 _ d) := Lib.hid os.reads
  have s7 : w6.heap.size < w7.heap.size := xl
  clear hb os
  go_wp2_with fail
  refine Calls.mono (mdlStream_any ?_ HFW.out STE.out) ?_
  · exact SO.out.below (by repeat (first | (with_reducible exact Below.refl _ _) | (with_reducible exact Below.refl _ _) | (with_reducible apply Below.drew) | (with_reducible apply below_alloc) | ((with_reducible refine Below.alloc ?_ ?_ _); rotate_left; focus (first | (simp; done) | (simp; omega) | omega)) | ((with_reducible refine Below.setCell ?_ ?_ _); rotate_left; focus (first | (simp; done) | (simp; omega) | omega))))
  rintro e w8 ⟨ta, tc, rfl, os, hb⟩
  obtain ⟨a8, cap8, b8, nc8, cc8, ev, -, -⟩ := os.reads.shape
  cases ev
  replace HB : Hid (Below w.heap.size w _) := below_step (by repeat (first | (with_reducible exact HB.out) | (with_reducible exact Below.refl _ _) | (with_reducible apply Below.drew) | (with_reducible apply below_alloc) | ((with_reducible refine Below.alloc ?_ ?_ _); rotate_left; focus (first | (simp; done) | (simp; omega) | omega)) | ((with_reducible refine Below.setCell ?_ ?_ _); rotate_left; focus (first | (simp; done) | (simp; omega) | omega)))) hb
  clear a0 a1 az al
  replace HA : Hid (Blk _ (w.heap.size) _ _) := Blk.step (by repeat (first | (with_reducible exact HA.out) | ((with_reducible apply Blk.new); focus (first | rfl | (simp; done) | (simp; omega))) | (with_reducible apply Blk.drew) | (with_reducible apply Blk.alloc) | (with_reducible apply Blk.set_) | ((with_reducible apply Blk.far); rotate_left; focus (first | (simp; done) | (simp; omega) | omega)))) hb
  obtain ⟨a0, a1, az⟩ := cells2 HA.out
  have al := Blk.lt HA.out
  clear q0 q1 qz ql
  replace HQ : Hid (Blk _ (w.heap.size + 1) _ _) := Blk.step (by repeat (first | (with_reducible exact HQ.out) | ((with_reducible apply Blk.new); focus (first | rfl | (simp; done) | (simp; omega))) | (with_reducible apply Blk.drew) | (with_reducible apply Blk.alloc) | (with_reducible apply Blk.set_) | ((with_reducible apply Blk.far); rotate_left; focus (first | (simp; done) | (simp; omega) | omega)))) hb
  obtain ⟨q0, q1, qz⟩ := cells2 HQ.out
  have ql := Blk.lt HQ.out
  clear o0 o1 oz ol
  replace HO : Hid (Blk _ (w3.heap.size) _ _) := Blk.step (by repeat (first | (with_reducible exact HO.out) | ((with_reducible apply Blk.new); focus (first | rfl | (simp; done) | (simp; omega))) | (with_reducible apply Blk.drew) | (with_reducible apply Blk.alloc) | (with_reducible apply Blk.set_) | ((with_reducible apply Blk.far); rotate_left; focus (first | (simp; done) | (simp; omega) | omega)))) hb
  obtain ⟨o0, o1, oz⟩ := cells2 HO.out
  have ol := Blk.lt HO.out
  clear u0 u1 uz ul
  replace HU : Hid (Blk _ (w4.heap.size) _ _) := Blk.step (by repeat (first | (with_reducible exact HU.out) | ((with_reducible apply Blk.new); focus (first | rfl | (simp; done) | (simp; omega))) | (with_reducible apply Blk.drew) | (with_reducible apply Blk.alloc) | (with_reducible apply Blk.set_) | ((with_reducible apply Blk.far); rotate_left; focus (first | (simp; done) | (simp; omega) | omega)))) hb
  obtain ⟨u0, u1, uz⟩ := cells2 HU.out
  have ul := Blk.lt HU.out
  clear v0 v1 vz vl
  replace HV : Hid (Blk _ (w5.heap.size) _ _) := Blk.step (by repeat (first | (with_reducible exact HV.out) | ((with_reducible apply Blk.new); focus (first | rfl | (simp; done) | (simp; omega))) | (with_reducible apply Blk.drew) | (with_reducible apply Blk.alloc) | (with_reducible apply Blk.set_) | ((with_reducible apply Blk.far); rotate_left; focus (first | (simp; done) | (simp; omega) | omega)))) hb
  obtain ⟨v0, v1, vz⟩ := cells2 HV.out
  have vl := Blk.lt HV.out
  clear x0 x1 xz xl
  replace HX : Hid (Blk _ (w6.heap.size) _ _) := Blk.step (by repeat (first | (with_reducible exact HX.out) | ((with_reducible apply Blk.new); focus (first | rfl | (simp; done) | (simp; omega))) | (with_reducible apply Blk.drew) | (with_reducible apply Blk.alloc) | (with_reducible apply Blk.set_) | ((with_reducible apply Blk.far); rotate_left; focus (first | (simp; done) | (simp; omega) | omega)))) hb
  obtain ⟨x0, x1, xz⟩ := cells2 HX.out
  have xl := Blk.lt HX.out
  replace SS : Hid (MdlR _ _ _) := mdlR_step SS.out (by repeat (first | (with_reducible exact Below.refl _ _) | (with_reducible exact Below.refl _ _) | (with_reducible apply Below.drew) | (with_reducible apply below_alloc) | ((with_reducible refine Below.alloc ?_ ?_ _); rotate_left; focus (first | (simp; done) | (simp; omega) | omega)) | ((with_reducible refine Below.setCell ?_ ?_ _); rotate_left; focus (first | (simp; done) | (simp; omega) | omega)))) hb
  replace SQ : Hid (MdlR _ _ _) := mdlR_step SQ.out (by repeat (first | (with_reducible exact Below.refl _ _) | (with_reducible exact Below.refl _ _) | (with_reducible apply Below.drew) | (with_reducible apply below_alloc) | ((with_reducible refine Below.alloc ?_ ?_ _); rotate_left; focus (first | (simp; done) | (simp; omega) | omega)) | ((with_reducible refine Below.setCell ?_ ?_ _); rotate_left; focus (first | (simp; done) | (simp; omega) | omega)))) hb
  replace SO : Hid (MdlR _ _ _) := mdlR_step SO.out (by repeat (first | (with_reducible exact Below.refl _ _) | (with_reducible exact Below.refl _ _) | (with_reducible apply Below.drew) | (with_reducible apply below_alloc) | ((with_reducible refine Below.alloc ?_ ?_ _); rotate_left; focus (first | (simp; done) | (simp; omega) | omega)) | ((with_reducible refine Below.setCell ?_ ?_ _); rotate_left; focus (first | (simp; done) | (simp; omega) | omega)))) hb
  replace SA : Hid (MdlR _ _ _) := mdlR_step SA.out (by repeat (first | (with_reducible exact Below.refl _ _) | (with_reducible exact Below.refl _ _) | (with_reducible apply Below.drew) | (with_reducible apply below_alloc) | ((with_reducible refine Below.alloc ?_ ?_ _); rotate_left; focus (first | (simp; done) | (simp; omega) | omega)) | ((with_reducible refine Below.setCell ?_ ?_ _); rotate_left; focus (first | (simp; done) | (simp; omega) | omega)))) hb
  replace SB : Hid (MdlR _ _ _) := mdlR_step SB.out (by repeat (first | (with_reducible exact Below.refl _ _) | (with_reducible exact Below.refl _ _) | (with_reducible apply Below.drew) | (with_reducible apply below_alloc) | ((with_reducible refine Below.alloc ?_ ?_ _); rotate_left; focus (first | (simp; done) | (simp; omega) | omega)) | ((with_reducible refine Below.setCell ?_ ?_ _); rotate_left; focus (first | (simp; done) | (simp; omega) | omega)))) hb
  replace SX : Hid (MdlR _ _ _) := mdlR_step SX.out (by repeat (first | (with_reducible exact Below.refl _ _) | (with_reducible exact Below.refl _ _) | (with_reducible apply Below.drew) | (with_reducible apply below_alloc) | ((with_reducible refine Below.alloc ?_ ?_ _); rotate_left; focus (first | (simp; done) | (simp; omega) | omega)) | ((with_reducible refine Below.setCell ?_ ?_ _); rotate_left; focus (first | (simp; done) | (simp; omega) | omega)))) hb
  replace SY : Hid (MdlR _ _ _) := mdlR_step SY.out (by repeat (first | (with_reducible exact Below.refl _ _) | (with_reducible exact Below.refl _ _) | (with_reducible apply Below.drew) | (with_reducible apply below_alloc) | ((with_reducible refine Below.alloc ?_ ?_ _); rotate_left; focus (first | (simp; done) | (simp; omega) | omega)) | ((with_reducible refine Below.setCell ?_ ?_ _); rotate_left; focus (first | (simp; done) | (simp; omega) | omega)))) hb
  replace H3 : Hid (Below w3.heap.size w3 _) := below_step (by repeat (first | (with_reducible exact H3.out) | (with_reducible exact Below.refl _ _) | (with_reducible apply Below.drew) | (with_reducible apply below_alloc) | ((with_reducible refine Below.alloc ?_ ?_ _); rotate_left; focus (first | (simp; done) | (simp; omega) | omega)) | ((with_reducible refine Below.setCell ?_ ?_ _); rotate_left; focus (first | (simp; done) | (simp; omega) | omega)))) hb
  have Y : Blk _ (w7.heap.size) _ _ := Blk.step (by repeat (first | ((with_reducible apply Blk.new); focus (first | rfl | (simp; done) | (simp; omega))) | (with_reducible apply Blk.drew) | (with_reducible apply Blk.alloc) | (with_reducible apply Blk.set_) | ((with_reducible apply Blk.far); rotate_left; focus (first | (simp; done) | (simp; omega) | omega)))) hb
  obtain ⟨y0, y1, yz⟩ := cells2 Y
  have yl := Blk.lt Y
  have HY := Lib.hid Y
  clear Y
  replace KA : Hid (ShM _ (w3.heap.size + 1) w4.heap.size _) := Lib.hid (KA.out.step (by omega) ((below_alloc (Below.refl _ _)).trans (hb.mono (by simp))))
  replace KX : Hid (ShM _ (w5.heap.size + 1) w6.heap.size _) := Lib.hid (KX.out.step (by omega) ((below_alloc (Below.refl _ _)).trans (hb.mono (by simp))))
  have TA : Hid (StrR w8 _ su) := Lib.hid os.reads
  have KS : Hid (ShS w8 (w7.heap.size + 1) w8.heap.size _) := Lib.hid (by have h := os.sh; simpa using h)
  have s8 : w7.heap.size < w8.heap.size := yl
  clear hb os
  go_wp2_with fail
  refine Calls.mono (mdlRStream_any ?_ STE.out) ?_
  · exact SS.out.below (by repeat (first | (with_reducible exact Below.refl _ _) | (with_reducible exact Below.refl _ _) | (with_reducible apply Below.drew) | (with_reducible apply below_alloc) | ((with_reducible refine Below.alloc ?_ ?_ _); rotate_left; focus (first | (simp; done) | (simp; omega) | omega)) | ((with_reducible refine Below.setCell ?_ ?_ _); rotate_left; focus (first | (simp; done) | (simp; omega) | omega))))
  rintro e w9 ⟨ta, tc, rfl, os, hb⟩
  obtain ⟨a9, cap9, b9, nc9, cc9, ev, -, -⟩ := os.reads.shape
  cases ev
  replace HB : Hid (Below w.heap.size w _) := below_step (by repeat (first | (with_reducible exact HB.out) | (with_reducible exact Below.refl _ _) | (with_reducible apply Below.drew) | (with_reducible apply below_alloc) | ((with_reducible refine Below.alloc ?_ ?_ _); rotate_left; focus (first | (simp; done) | (simp; omega) | omega)) | ((with_reducible refine Below.setCell ?_ ?_ _); rotate_left; focus (first | (simp; done) | (simp; omega) | omega)))) hb
  clear a0 a1 az al
  replace HA : Hid (Blk _ (w.heap.size) _ _) := Blk.step (by repeat (first | (with_reducible exact HA.out) | ((with_reducible apply Blk.new); focus (first | rfl | (simp; done) | (simp; omega))) | (with_reducible apply Blk.drew) | (with_reducible apply Blk.alloc) | (with_reducible apply Blk.set_) | ((with_reducible apply Blk.far); rotate_left; focus (first | (simp; done) | (simp; omega) | omega)))) hb
  obtain ⟨a0, a1, az⟩ := cells2 HA.out
  have al := Blk.lt HA.out
  clear q0 q1 qz ql
  replace HQ : Hid (Blk _ (w.heap.size + 1) _ _) := Blk.step (by repeat (first | (with_reducible exact HQ.out) | ((with_reducible apply Blk.new); focus (first | rfl | (simp; done) | (simp; omega))) | (with_reducible apply Blk.drew) | (with_reducible apply Blk.alloc) | (with_reducible apply Blk.set_) | ((with_reducible apply Blk.far); rotate_left; focus (first | (simp; done) | (simp; omega) | omega)))) hb
  obtain ⟨q0, q1, qz⟩ := cells2 HQ.out
  have ql := Blk.lt HQ.out
  clear o0 o1 oz ol
  replace HO : Hid (Blk _ (w3.heap.size) _ _) := Blk.step (by repeat (first | (with_reducible exact HO.out) | ((with_reducible apply Blk.new); focus (first | rfl | (simp; done) | (simp; omega))) | (with_reducible apply Blk.drew) | (with_reducible apply Blk.alloc) | (with_reducible apply Blk.set_) | ((with_reducible apply Blk.far); rotate_left; focus (first | (simp; done) | (simp; omega) | omega)))) hb
  obtain ⟨o0, o1, oz⟩ := cells2 HO.out
  have ol := Blk.lt HO.out
  clear u0 u1 uz ul
  replace HU : Hid (Blk _ (w4.heap.size) _ _) := Blk.step (by repeat (first | (with_reducible exact HU.out) | ((with_reducible apply Blk.new); focus (first | rfl | (simp; done) | (simp; omega))) | (with_reducible apply Blk.drew) | (with_reducible apply Blk.alloc) | (with_reducible apply Blk.set_) | ((with_reducible apply Blk.far); rotate_left; focus (first | (simp; done) | (simp; omega) | omega)))) hb
  obtain ⟨u0, u1, uz⟩ := cells2 HU.out
  have ul := Blk.lt HU.out
  clear v0 v1 vz vl
  replace HV : Hid (Blk _ (w5.heap.size) _ _) := Blk.step (by repeat (first | (with_reducible exact HV.out) | ((with_reducible apply Blk.new); focus (first | rfl | (simp; done) | (simp; omega))) | (with_reducible apply Blk.drew) | (with_reducible apply Blk.alloc) | (with_reducible apply Blk.set_) | ((with_reducible apply Blk.far); rotate_left; focus (first | (simp; done) | (simp; omega) | omega)))) hb
  obtain ⟨v0, v1, vz⟩ := cells2 HV.out
  have vl := Blk.lt HV.out
  clear x0 x1 xz xl
  replace HX : Hid (Blk _ (w6.heap.size) _ _) := Blk.step (by repeat (first | (with_reducible exact HX.out) | ((with_reducible apply Blk.new); focus (first | rfl | (simp; done) | (simp; omega))) | (with_reducible apply Blk.drew) | (with_reducible apply Blk.alloc) | (with_reducible apply Blk.set_) | ((with_reducible apply Blk.far); rotate_left; focus (first | (simp; done) | (simp; omega) | omega)))) hb
  obtain ⟨x0, x1, xz⟩ := cells2 HX.out
  have xl := Blk.lt HX.out
  clear y0 y1 yz yl
  replace HY : Hid (Blk _ (w7.heap.size) _ _) := Blk.step (by repeat (first | (with_reducible exact HY.out) | ((with_reducible apply Blk.new); focus (first | rfl | (simp; done) | (simp; omega))) | (with_reducible apply Blk.drew) | (with_reducible apply Blk.alloc) | (with_reducible apply Blk.set_) | ((with_reducible apply Blk.far); rotate_left; focus (first | (simp; done) | (simp; omega) | omega)))) hb
  obtain ⟨y0, y1, yz⟩ := cells2 HY.out
  have yl := Blk.lt HY.out
  replace SS : Hid (MdlR _ _ _) := mdlR_step SS.out (by repeat (first | (with_reducible exact Below.refl _ _) | (with_reducible exact Below.refl _ _) | (with_reducible apply Below.drew) | (with_reducible apply below_alloc) | ((with_reducible refine Below.alloc ?_ ?_ _); rotate_left; focus (first | (simp; done) | (simp; omega) | omega)) | ((with_reducible refine Below.setCell ?_ ?_ _); rotate_left; focus (first | (simp; done) | (simp; omega) | omega)))) hb
  replace SQ : Hid (MdlR _ _ _) := mdlR_step SQ.out (by repeat (first | (with_reducible exact Below.refl _ _) | (with_reducible exact Below.refl _ _) | (with_reducible apply Below.drew) | (with_reducible apply below_alloc) | ((with_reducible refine Below.alloc ?_ ?_ _); rotate_left; focus (first | (simp; done) | (simp; omega) | omega)) | ((with_reducible refine Below.setCell ?_ ?_ _); rotate_left; focus (first | (simp; done) | (simp; omega) | omega)))) hb
  replace SO : Hid (MdlR _ _ _) := mdlR_step SO.out (by repeat (first | (with_reducible exact Below.refl _ _) | (with_reducible exact Below.refl _ _) | (with_reducible apply Below.drew) | (with_reducible apply below_alloc) | ((with_reducible refine Below.alloc ?_ ?_ _); rotate_left; focus (first | (simp; done) | (simp; omega) | omega)) | ((with_reducible refine Below.setCell ?_ ?_ _); rotate_left; focus (first | (simp; done) | (simp; omega) | omega)))) hb
  replace SA : Hid (MdlR _ _ _) := mdlR_step SA.out (by repeat (first | (with_reducible exact Below.refl _ _) | (with_reducible exact Below.refl _ _) | (with_reducible apply Below.drew) | (with_reducible apply below_alloc) | ((with_reducible refine Below.alloc ?_ ?_ _); rotate_left; focus (first | (simp; done) | (simp; omega) | omega)) | ((with_reducible refine Below.setCell ?_ ?_ _); rotate_left; focus (first | (simp; done) | (simp; omega) | omega)))) hb
  replace SB : Hid (MdlR _ _ _) := mdlR_step SB.out (by repeat (first | (with_reducible exact Below.refl _ _) | (with_reducible exact Below.refl _ _) | (with_reducible apply Below.drew) | (with_reducible apply below_alloc) | ((with_reducible refine Below.alloc ?_ ?_ _); rotate_left; focus (first | (simp; done) | (simp; omega) | omega)) | ((with_reducible refine Below.setCell ?_ ?_ _); rotate_left; focus (first | (simp; done) | (simp; omega) | omega)))) hb
  replace SX : Hid (MdlR _ _ _) := mdlR_step SX.out (by repeat (first | (with_reducible exact Below.refl _ _) | (with_reducible exact Below.refl _ _) | (with_reducible apply Below.drew) | (with_reducible apply below_alloc) | ((with_reducible refine Below.alloc ?_ ?_ _); rotate_left; focus (first | (simp; done) | (simp; omega) | omega)) | ((with_reducible refine Below.setCell ?_ ?_ _); rotate_left; focus (first | (simp; done) | (simp; omega) | omega)))) hb
  replace SY : Hid (MdlR _ _ _) := mdlR_step SY.out (by repeat (first | (with_reducible exact Below.refl _ _) | (with_reducible exact Below.refl _ _) | (with_reducible apply Below.drew) | (with_reducible apply below_alloc) | ((with_reducible refine Below.alloc ?_ ?_ _); rotate_left; focus (first | (simp; done) | (simp; omega) | omega)) | ((with_reducible refine Below.setCell ?_ ?_ _); rotate_left; focus (first | (simp; done) | (simp; omega) | omega)))) hb
  replace TA : Hid (StrR _ _ _) := strR_step TA.out (by repeat (first | (with_reducible exact Below.refl _ _) | (with_reducible exact Below.refl _ _) | (with_reducible apply Below.drew) | (with_reducible apply below_alloc) | ((with_reducible refine Below.alloc ?_ ?_ _); rotate_left; focus (first | (simp; done) | (simp; omega) | omega)) | ((with_reducible refine Below.setCell ?_ ?_ _); rotate_left; focus (first | (simp; done) | (simp; omega) | omega)))) hb
  replace H3 : Hid (Below w3.heap.size w3 _) := below_step (by repeat (first | (with_reducible exact H3.out) | (with_reducible exact Below.refl _ _) | (with_reducible apply Below.drew) | (with_reducible apply below_alloc) | ((with_reducible refine Below.alloc ?_ ?_ _); rotate_left; focus (first | (simp; done) | (simp; omega) | omega)) | ((with_reducible refine Below.setCell ?_ ?_ _); rotate_left; focus (first | (simp; done) | (simp; omega) | omega)))) hb
  have Z : Blk _ (w8.heap.size) _ _ := Blk.step (by repeat (first | ((with_reducible apply Blk.new); focus (first | rfl | (simp; done) | (simp; omega))) | (with_reducible apply Blk.drew) | (with_reducible apply Blk.alloc) | (with_reducible apply Blk.set_) | ((with_reducible apply Blk.far); rotate_left; focus (first | (simp; done) | (simp; omega) | omega)))) hb
  obtain ⟨z0, z1, zz⟩ := cells2 Z
  have zl := Blk.lt Z
  have HZ := Lib.hid Z
  clear Z
  replace KA : Hid (ShM _ (w3.heap.size + 1) w4.heap.size _) := Lib.hid (KA.out.step (by omega) ((below_alloc (Below.refl _ _)).trans (hb.mono (by simp))))
  replace KX : Hid (ShM _ (w5.heap.size + 1) w6.heap.size _) := Lib.hid (KX.out.step (by omega) ((below_alloc (Below.refl _ _)).trans (hb.mono (by simp))))
  replace KS : Hid (ShS _ (w7.heap.size + 1) w8.heap.size _) := Lib.hid (KS.out.step (by omega) ((below_alloc (Below.refl _ _)).trans (hb.mono (by simp))))
  have TB : Hid (StrR w9 _ su) := Lib.hid os.reads
  have s9 : w8.heap.size < w9.heap.size := zl
  clear hb os
  go_wp2_with fail
  refine Calls.mono (mdlTwin_any ?_ HF.out) ?_
  · exact SO.out.below (by repeat (first | (with_reducible exact Below.refl _ _) | (with_reducible exact Below.refl _ _) | (with_reducible apply Below.drew) | (with_reducible apply below_alloc) | ((with_reducible refine Below.alloc ?_ ?_ _); rotate_left; focus (first | (simp; done) | (simp; omega) | omega)) | ((with_reducible refine Below.setCell ?_ ?_ _); rotate_left; focus (first | (simp; done) | (simp; omega) | omega))))
  rintro e w10 ⟨ta, tc, rfl, os, hb⟩
  obtain ⟨a10, cap10, b10, nc10, cc10, ev, -, -⟩ := os.reads.shape
  cases ev
  replace HB : Hid (Below w.heap.size w _) := below_step (by repeat (first | (with_reducible exact HB.out) | (with_reducible exact Below.refl _ _) | (with_reducible apply Below.drew) | (with_reducible apply below_alloc) | ((with_reducible refine Below.alloc ?_ ?_ _); rotate_left; focus (first | (simp; done) | (simp; omega) | omega)) | ((with_reducible refine Below.setCell ?_ ?_ _); rotate_left; focus (first | (simp; done) | (simp; omega) | omega)))) hb
  clear a0 a1 az al
  replace HA : Hid (Blk _ (w.heap.size) _ _) := Blk.step (by repeat (first | (with_reducible exact HA.out) | ((with_reducible apply Blk.new); focus (first | rfl | (simp; done) | (simp; omega))) | (with_reducible apply Blk.drew) | (with_reducible apply Blk.alloc) | (with_reducible apply Blk.set_) | ((with_reducible apply Blk.far); rotate_left; focus (first | (simp; done) | (simp; omega) | omega)))) hb
  obtain ⟨a0, a1, az⟩ := cells2 HA.out
  have al := Blk.lt HA.out
  clear q0 q1 qz ql
  replace HQ : Hid (Blk _ (w.heap.size + 1) _ _) := Blk.step (by repeat (first | (with_reducible exact HQ.out) | ((with_reducible apply Blk.new); focus (first | rfl | (simp; done) | (simp; omega))) | (with_reducible apply Blk.drew) | (with_reducible apply Blk.alloc) | (with_reducible apply Blk.set_) | ((with_reducible apply Blk.far); rotate_left; focus (first | (simp; done) | (simp; omega) | omega)))) hb
  obtain ⟨q0, q1, qz⟩ := cells2 HQ.out
  have ql := Blk.lt HQ.out
  clear o0 o1 oz ol
  replace HO : Hid (Blk _ (w3.heap.size) _ _) := Blk.step (by repeat (first | (with_reducible exact HO.out) | ((with_reducible apply Blk.new); focus (first | rfl | (simp; done) | (simp; omega))) | (with_reducible apply Blk.drew) | (with_reducible apply Blk.alloc) | (with_reducible apply Blk.set_) | ((with_reducible apply Blk.far); rotate_left; focus (first | (simp; done) | (simp; omega) | omega)))) hb
  obtain ⟨o0, o1, oz⟩ := cells2 HO.out
  have ol := Blk.lt HO.out
  clear u0 u1 uz ul
  replace HU : Hid (Blk _ (w4.heap.size) _ _) := Blk.step (by repeat (first | (with_reducible exact HU.out) | ((with_reducible apply Blk.new); focus (first | rfl | (simp; done) | (simp; omega))) | (with_reducible apply Blk.drew) | (with_reducible apply Blk.alloc) | (with_reducible apply Blk.set_) | ((with_reducible apply Blk.far); rotate_left; focus (first | (simp; done) | (simp; omega) | omega)))) hb
  obtain ⟨u0, u1, uz⟩ := cells2 HU.out
  have ul := Blk.lt HU.out
  clear v0 v1 vz vl
  replace HV : Hid (Blk _ (w5.heap.size) _ _) := Blk.step (by repeat (first | (with_reducible exact HV.out) | ((with_reducible apply Blk.new); focus (first | rfl | (simp; done) | (simp; omega))) | (with_reducible apply Blk.drew) | (with_reducible apply Blk.alloc) | (with_reducible apply Blk.set_) | ((with_reducible apply Blk.far); rotate_left; focus (first | (simp; done) | (simp; omega) | omega)))) hb
  obtain ⟨v0, v1, vz⟩ := cells2 HV.out
  have vl := Blk.lt HV.out
  clear x0 x1 xz xl
  replace HX : Hid (Blk _ (w6.heap.size) _ _) := Blk.step (by repeat (first | (with_reducible exact HX.out) | ((with_reducible apply Blk.new); focus (first | rfl | (simp; done) | (simp; omega))) | (with_reducible apply Blk.drew) | (with_reducible apply Blk.alloc) | (with_reducible apply Blk.set_) | ((with_reducible apply Blk.far); rotate_left; focus (first | (simp; done) | (simp; omega) | omega)))) hb
  obtain ⟨x0, x1, xz⟩ := cells2 HX.out
  have xl := Blk.lt HX.out
  clear y0 y1 yz yl
  replace HY : Hid (Blk _ (w7.heap.size) _ _) := Blk.step (by repeat (first | (with_reducible exact HY.out) | ((with_reducible apply Blk.new); focus (first | rfl | (simp; done) | (simp; omega))) | (with_reducible apply Blk.drew) | (with_reducible apply Blk.alloc) | (with_reducible apply Blk.set_) | ((with_reducible apply Blk.far); rotate_left; focus (first | (simp; done) | (simp; omega) | omega)))) hb
  obtain ⟨y0, y1, yz⟩ := cells2 HY.out
  have yl := Blk.lt HY.out
  clear z0 z1 zz zl
  replace HZ : Hid (Blk _ (w8.heap.size) _ _) := Blk.step (by repeat (first | (with_reducible exact HZ.out) | ((with_reducible apply Blk.new); focus (first | rfl | (simp; done) | (simp; omega))) | (with_reducible apply Blk.drew) | (with_reducible apply Blk.alloc) | (with_reducible apply Blk.set_) | ((with_reducible apply Blk.far); rotate_left; focus (first | (simp; done) | (simp; omega) | omega)))) hb
  obtain ⟨z0, z1, zz⟩ := cells2 HZ.out
  have zl := Blk.lt HZ.out
  replace SS : Hid (MdlR _ _ _) := mdlR_step SS.out (by repeat (first | (with_reducible exact Below.refl _ _) | (with_reducible exact Below.refl _ _) | (with_reducible apply Below.drew) | (with_reducible apply below_alloc) | ((with_reducible refine Below.alloc ?_ ?_ _); rotate_left; focus (first | (simp; done) | (simp; omega) | omega)) | ((with_reducible refine Below.setCell ?_ ?_ _); rotate_left; focus (first | (simp; done) | (simp; omega) | omega)))) hb
  replace SQ : Hid (MdlR _ _ _) := mdlR_step SQ.out (by repeat (first | (with_reducible exact Below.refl _ _) | (with_reducible exact Below.refl _ _) | (with_reducible apply Below.drew) | (with_reducible apply below_alloc) | ((with_reducible refine Below.alloc ?_ ?_ _); rotate_left; focus (first | (simp; done) | (simp; omega) | omega)) | ((with_reducible refine Below.setCell ?_ ?_ _); rotate_left; focus (first | (simp; done) | (simp; omega) | omega)))) hb
  replace SO : Hid (MdlR _ _ _) := mdlR_step SO.out (by repeat (first | (with_reducible exact Below.refl _ _) | (with_reducible exact Below.refl _ _) | (with_reducible apply Below.drew) | (with_reducible apply below_alloc) | ((with_reducible refine Below.alloc ?_ ?_ _); rotate_left; focus (first | (simp; done) | (simp; omega) | omega)) | ((with_reducible refine Below.setCell ?_ ?_ _); rotate_left; focus (first | (simp; done) | (simp; omega) | omega)))) hb
  replace SA : Hid (MdlR _ _ _) := mdlR_step SA.out (by repeat (first | (with_reducible exact Below.refl _ _) | (with_reducible exact Below.refl _ _) | (with_reducible apply Below.drew) | (with_reducible apply below_alloc) | ((with_reducible refine Below.alloc ?_ ?_ _); rotate_left; focus (first | (simp; done) | (simp; omega) | omega)) | ((with_reducible refine Below.setCell ?_ ?_ _); rotate_left; focus (first | (simp; done) | (simp; omega) | omega)))) hb
  replace SB : Hid (MdlR _ _ _) := mdlR_step SB.out (by repeat (first | (with_reducible exact Below.refl _ _) | (with_reducible exact Below.refl _ _) | (with_reducible apply Below.drew) | (with_reducible apply below_alloc) | ((with_reducible refine Below.alloc ?_ ?_ _); rotate_left; focus (first | (simp; done) | (simp; omega) | omega)) | ((with_reducible refine Below.setCell ?_ ?_ _); rotate_left; focus (first | (simp; done) | (simp; omega) | omega)))) hb
  replace SX : Hid (MdlR _ _ _) := mdlR_step SX.out (by repeat (first | (with_reducible exact Below.refl _ _) | (with_reducible exact Below.refl _ _) | (with_reducible apply Below.drew) | (with_reducible apply below_alloc) | ((with_reducible refine Below.alloc ?_ ?_ _); rotate_left; focus (first | (simp; done) | (simp; omega) | omega)) | ((with_reducible refine Below.setCell ?_ ?_ _); rotate_left; focus (first | (simp; done) | (simp; omega) | omega)))) hb
  replace SY : Hid (MdlR _ _ _) := mdlR_step SY.out (by repeat (first | (with_reducible exact Below.refl _ _) | (with_reducible exact Below.refl _ _) | (with_reducible apply Below.drew) | (with_reducible apply below_alloc) | ((with_reducible refine Below.alloc ?_ ?_ _); rotate_left; focus (first | (simp; done) | (simp; omega) | omega)) | ((with_reducible refine Below.setCell ?_ ?_ _); rotate_left; focus (first | (simp; done) | (simp; omega) | omega)))) hb
  replace TA : Hid (StrR _ _ _) := strR_step TA.out (by repeat (first | (with_reducible exact Below.refl _ _) | (with_reducible exact Below.refl _ _) | (with_reducible apply Below.drew) | (with_reducible apply below_alloc) | ((with_reducible refine Below.alloc ?_ ?_ _); rotate_left; focus (first | (simp; done) | (simp; omega) | omega)) | ((with_reducible refine Below.setCell ?_ ?_ _); rotate_left; focus (first | (simp; done) | (simp; omega) | omega)))) hb
  replace TB : Hid (StrR _ _ _) := strR_step TB.out (by repeat (first | (with_reducible exact Below.refl _ _) | (with_reducible exact Below.refl _ _) | (with_reducible apply Below.drew) | (with_reducible apply below_alloc) | ((with_reducible refine Below.alloc ?_ ?_ _); rotate_left; focus (first | (simp; done) | (simp; omega) | omega)) | ((with_reducible refine Below.setCell ?_ ?_ _); rotate_left; focus (first | (simp; done) | (simp; omega) | omega)))) hb
  replace H3 : Hid (Below w3.heap.size w3 _) := below_step (by repeat (first | (with_reducible exact H3.out) | (with_reducible exact Below.refl _ _) | (with_reducible apply Below.drew) | (with_reducible apply below_alloc) | ((with_reducible refine Below.alloc ?_ ?_ _); rotate_left; focus (first | (simp; done) | (simp; omega) | omega)) | ((with_reducible refine Below.setCell ?_ ?_ _); rotate_left; focus (first | (simp; done) | (simp; omega) | omega)))) hb
  have G : Blk _ (w9.heap.size) _ _ := Blk.step (by repeat (first | ((with_reducible apply Blk.new); focus (first | rfl | (simp; done) | (simp; omega))) | (with_reducible apply Blk.drew) | (with_reducible apply Blk.alloc) | (with_reducible apply Blk.set_) | ((with_reducible apply Blk.far); rotate_left; focus (first | (simp; done) | (simp; omega) | omega)))) hb
  obtain ⟨g0, g1, gz⟩ := cells2 G
  have gl := Blk.lt G
  have HG := Lib.hid G
  clear G
  replace KA : Hid (ShM _ (w3.heap.size + 1) w4.heap.size _) := Lib.hid (KA.out.step (by omega) ((below_alloc (Below.refl _ _)).trans (hb.mono (by simp))))
  replace KX : Hid (ShM _ (w5.heap.size + 1) w6.heap.size _) := Lib.hid (KX.out.step (by omega) ((below_alloc (Below.refl _ _)).trans (hb.mono (by simp))))
  replace KS : Hid (ShS _ (w7.heap.size + 1) w8.heap.size _) := Lib.hid (KS.out.step (by omega) ((below_alloc (Below.refl _ _)).trans (hb.mono (by simp))))
  have SW : Hid (MdlR w10 _ s) := Lib.hid os.reads
  have KW : Hid (ShM w10 (w9.heap.size + 1) w10.heap.size _) := Lib.hid (by have h := os.weak.sh; simpa using h)
  have s10 : w9.heap.size < w10.heap.size := gl
  clear hb os
  go_wp2_with fail
  refine Calls.mono (rsame u (SA.out.below (by repeat (first | (with_reducible exact Below.refl _ _) | (with_reducible exact Below.refl _ _) | (with_reducible apply Below.drew) | (with_reducible apply below_alloc) | ((with_reducible refine Below.alloc ?_ ?_ _); rotate_left; focus (first | (simp; done) | (simp; omega) | omega)) | ((with_reducible refine Below.setCell ?_ ?_ _); rotate_left; focus (first | (simp; done) | (simp; omega) | omega))))) (SB.out.below (by repeat (first | (with_reducible exact Below.refl _ _) | (with_reducible exact Below.refl _ _) | (with_reducible apply Below.drew) | (with_reducible apply below_alloc) | ((with_reducible refine Below.alloc ?_ ?_ _); rotate_left; focus (first | (simp; done) | (simp; omega) | omega)) | ((with_reducible refine Below.setCell ?_ ?_ _); rotate_left; focus (first | (simp; done) | (simp; omega) | omega)))))) ?_
  rintro e w11 ⟨rfl, hb⟩
  replace HB : Hid (Below w.heap.size w _) := below_step (by repeat (first | (with_reducible exact HB.out) | (with_reducible exact Below.refl _ _) | (with_reducible apply Below.drew) | (with_reducible apply below_alloc) | ((with_reducible refine Below.alloc ?_ ?_ _); rotate_left; focus (first | (simp; done) | (simp; omega) | omega)) | ((with_reducible refine Below.setCell ?_ ?_ _); rotate_left; focus (first | (simp; done) | (simp; omega) | omega)))) hb
  clear a0 a1 az al
  replace HA : Hid (Blk _ (w.heap.size) _ _) := Blk.step (by repeat (first | (with_reducible exact HA.out) | ((with_reducible apply Blk.new); focus (first | rfl | (simp; done) | (simp; omega))) | (with_reducible apply Blk.drew) | (with_reducible apply Blk.alloc) | (with_reducible apply Blk.set_) | ((with_reducible apply Blk.far); rotate_left; focus (first | (simp; done) | (simp; omega) | omega)))) hb
  obtain ⟨a0, a1, az⟩ := cells2 HA.out
  have al := Blk.lt HA.out
  clear q0 q1 qz ql
  replace HQ : Hid (Blk _ (w.heap.size + 1) _ _) := Blk.step (by repeat (first | (with_reducible exact HQ.out) | ((with_reducible apply Blk.new); focus (first | rfl | (simp; done) | (simp; omega))) | (with_reducible apply Blk.drew) | (with_reducible apply Blk.alloc) | (with_reducible apply Blk.set_) | ((with_reducible apply Blk.far); rotate_left; focus (first | (simp; done) | (simp; omega) | omega)))) hb
  obtain ⟨q0, q1, qz⟩ := cells2 HQ.out
  have ql := Blk.lt HQ.out
  clear o0 o1 oz ol
  replace HO : Hid (Blk _ (w3.heap.size) _ _) := Blk.step (by repeat (first | (with_reducible exact HO.out) | ((with_reducible apply Blk.new); focus (first | rfl | (simp; done) | (simp; omega))) | (with_reducible apply Blk.drew) | (with_reducible apply Blk.alloc) | (with_reducible apply Blk.set_) | ((with_reducible apply Blk.far); rotate_left; focus (first | (simp; done) | (simp; omega) | omega)))) hb
  obtain ⟨o0, o1, oz⟩ := cells2 HO.out
  have ol := Blk.lt HO.out
  clear u0 u1 uz ul
  replace HU : Hid (Blk _ (w4.heap.size) _ _) := Blk.step (by repeat (first | (with_reducible exact HU.out) | ((with_reducible apply Blk.new); focus (first | rfl | (simp; done) | (simp; omega))) | (with_reducible apply Blk.drew) | (with_reducible apply Blk.alloc) | (with_reducible apply Blk.set_) | ((with_reducible apply Blk.far); rotate_left; focus (first | (simp; done) | (simp; omega) | omega)))) hb
  obtain ⟨u0, u1, uz⟩ := cells2 HU.out
  have ul := Blk.lt HU.out
  clear x0 x1 xz xl
  replace HX : Hid (Blk _ (w6.heap.size) _ _) := Blk.step (by repeat (first | (with_reducible exact HX.out) | ((with_reducible apply Blk.new); focus (first | rfl | (simp; done) | (simp; omega))) | (with_reducible apply Blk.drew) | (with_reducible apply Blk.alloc) | (with_reducible apply Blk.set_) | ((with_reducible apply Blk.far); rotate_left; focus (first | (simp; done) | (simp; omega) | omega)))) hb
  obtain ⟨x0, x1, xz⟩ := cells2 HX.out
  have xl := Blk.lt HX.out
  clear y0 y1 yz yl
  replace HY : Hid (Blk _ (w7.heap.size) _ _) := Blk.step (by repeat (first | (with_reducible exact HY.out) | ((with_reducible apply Blk.new); focus (first | rfl | (simp; done) | (simp; omega))) | (with_reducible apply Blk.drew) | (with_reducible apply Blk.alloc) | (with_reducible apply Blk.set_) | ((with_reducible apply Blk.far); rotate_left; focus (first | (simp; done) | (simp; omega) | omega)))) hb
  obtain ⟨y0, y1, yz⟩ := cells2 HY.out
  have yl := Blk.lt HY.out
  clear z0 z1 zz zl
  replace HZ : Hid (Blk _ (w8.heap.size) _ _) := Blk.step (by repeat (first | (with_reducible exact HZ.out) | ((with_reducible apply Blk.new); focus (first | rfl | (simp; done) | (simp; omega))) | (with_reducible apply Blk.drew) | (with_reducible apply Blk.alloc) | (with_reducible apply Blk.set_) | ((with_reducible apply Blk.far); rotate_left; focus (first | (simp; done) | (simp; omega) | omega)))) hb
  obtain ⟨z0, z1, zz⟩ := cells2 HZ.out
  have zl := Blk.lt HZ.out
  clear g0 g1 gz gl
  replace HG : Hid (Blk _ (w9.heap.size) _ _) := Blk.step (by repeat (first | (with_reducible exact HG.out) | ((with_reducible apply Blk.new); focus (first | rfl | (simp; done) | (simp; omega))) | (with_reducible apply Blk.drew) | (with_reducible apply Blk.alloc) | (with_reducible apply Blk.set_) | ((with_reducible apply Blk.far); rotate_left; focus (first | (simp; done) | (simp; omega) | omega)))) hb
  obtain ⟨g0, g1, gz⟩ := cells2 HG.out
  have gl := Blk.lt HG.out
  replace SS : Hid (MdlR _ _ _) := mdlR_step SS.out (by repeat (first | (with_reducible exact Below.refl _ _) | (with_reducible exact Below.refl _ _) | (with_reducible apply Below.drew) | (with_reducible apply below_alloc) | ((with_reducible refine Below.alloc ?_ ?_ _); rotate_left; focus (first | (simp; done) | (simp; omega) | omega)) | ((with_reducible refine Below.setCell ?_ ?_ _); rotate_left; focus (first | (simp; done) | (simp; omega) | omega)))) hb
  replace SQ : Hid (MdlR _ _ _) := mdlR_step SQ.out (by repeat (first | (with_reducible exact Below.refl _ _) | (with_reducible exact Below.refl _ _) | (with_reducible apply Below.drew) | (with_reducible apply below_alloc) | ((with_reducible refine Below.alloc ?_ ?_ _); rotate_left; focus (first | (simp; done) | (simp; omega) | omega)) | ((with_reducible refine Below.setCell ?_ ?_ _); rotate_left; focus (first | (simp; done) | (simp; omega) | omega)))) hb
  replace SO : Hid (MdlR _ _ _) := mdlR_step SO.out (by repeat (first | (with_reducible exact Below.refl _ _) | (with_reducible exact Below.refl _ _) | (with_reducible apply Below.drew) | (with_reducible apply below_alloc) | ((with_reducible refine Below.alloc ?_ ?_ _); rotate_left; focus (first | (simp; done) | (simp; omega) | omega)) | ((with_reducible refine Below.setCell ?_ ?_ _); rotate_left; focus (first | (simp; done) | (simp; omega) | omega)))) hb
  replace SX : Hid (MdlR _ _ _) := mdlR_step SX.out (by repeat (first | (with_reducible exact Below.refl _ _) | (with_reducible exact Below.refl _ _) | (with_reducible apply Below.drew) | (with_reducible apply below_alloc) | ((with_reducible refine Below.alloc ?_ ?_ _); rotate_left; focus (first | (simp; done) | (simp; omega) | omega)) | ((with_reducible refine Below.setCell ?_ ?_ _); rotate_left; focus (first | (simp; done) | (simp; omega) | omega)))) hb
  replace SY : Hid (MdlR _ _ _) := mdlR_step SY.out (by repeat (first | (with_reducible exact Below.refl _ _) | (with_reducible exact Below.refl _ _) | (with_reducible apply Below.drew) | (with_reducible apply below_alloc) | ((with_reducible refine Below.alloc ?_ ?_ _); rotate_left; focus (first | (simp; done) | (simp; omega) | omega)) | ((with_reducible refine Below.setCell ?_ ?_ _); rotate_left; focus (first | (simp; done) | (simp; omega) | omega)))) hb
  replace SW : Hid (MdlR _ _ _) := mdlR_step SW.out (by repeat (first | (with_reducible exact Below.refl _ _) | (with_reducible exact Below.refl _ _) | (with_reducible apply Below.drew) | (with_reducible apply below_alloc) | ((with_reducible refine Below.alloc ?_ ?_ _); rotate_left; focus (first | (simp; done) | (simp; omega) | omega)) | ((with_reducible refine Below.setCell ?_ ?_ _); rotate_left; focus (first | (simp; done) | (simp; omega) | omega)))) hb
  replace TA : Hid (StrR _ _ _) := strR_step TA.out (by repeat (first | (with_reducible exact Below.refl _ _) | (with_reducible exact Below.refl _ _) | (with_reducible apply Below.drew) | (with_reducible apply below_alloc) | ((with_reducible refine Below.alloc ?_ ?_ _); rotate_left; focus (first | (simp; done) | (simp; omega) | omega)) | ((with_reducible refine Below.setCell ?_ ?_ _); rotate_left; focus (first | (simp; done) | (simp; omega) | omega)))) hb
  replace TB : Hid (StrR _ _ _) := strR_step TB.out (by repeat (first | (with_reducible exact Below.refl _ _) | (with_reducible exact Below.refl _ _) | (with_reducible apply Below.drew) | (with_reducible apply below_alloc) | ((with_reducible refine Below.alloc ?_ ?_ _); rotate_left; focus (first | (simp; done) | (simp; omega) | omega)) | ((with_reducible refine Below.setCell ?_ ?_ _); rotate_left; focus (first | (simp; done) | (simp; omega) | omega)))) hb
  replace H3 : Hid (Below w3.heap.size w3 _) := below_step (by repeat (first | (with_reducible exact H3.out) | (with_reducible exact Below.refl _ _) | (with_reducible apply Below.drew) | (with_reducible apply below_alloc) | ((with_reducible refine Below.alloc ?_ ?_ _); rotate_left; focus (first | (simp; done) | (simp; omega) | omega)) | ((with_reducible refine Below.setCell ?_ ?_ _); rotate_left; focus (first | (simp; done) | (simp; omega) | omega)))) hb
  have L : Blk _ (w10.heap.size) _ _ := Blk.step (by repeat (first | ((with_reducible apply Blk.new); focus (first | rfl | (simp; done) | (simp; omega))) | (with_reducible apply Blk.drew) | (with_reducible apply Blk.alloc) | (with_reducible apply Blk.set_) | ((with_reducible apply Blk.far); rotate_left; focus (first | (simp; done) | (simp; omega) | omega)))) hb
  obtain ⟨l0, l1, lz⟩ := cells2 L
  have ll := Blk.lt L
  have HL := Lib.hid L
  clear L
  replace KA : Hid (ShM _ (w3.heap.size + 1) w4.heap.size _) := Lib.hid (KA.out.step (by omega) ((below_alloc (Below.refl _ _)).trans (hb.mono (by simp))))
  replace KX : Hid (ShM _ (w5.heap.size + 1) w6.heap.size _) := Lib.hid (KX.out.step (by omega) ((below_alloc (Below.refl _ _)).trans (hb.mono (by simp))))
  replace KS : Hid (ShS _ (w7.heap.size + 1) w8.heap.size _) := Lib.hid (KS.out.step (by omega) ((below_alloc (Below.refl _ _)).trans (hb.mono (by simp))))
  replace KW : Hid (ShM _ (w9.heap.size + 1) w10.heap.size _) := Lib.hid (KW.out.step (by omega) ((below_alloc (Below.refl _ _)).trans (hb.mono (by simp))))
  have s11 : w10.heap.size < w11.heap.size := ll
  clear hb v0 v1 vz vl HV SA SB
  go_wp2_with fail
  refine Calls.mono (rsame d (SX.out.below (by repeat (first | (with_reducible exact Below.refl _ _) | (with_reducible exact Below.refl _ _) | (with_reducible apply Below.drew) | (with_reducible apply below_alloc) | ((with_reducible refine Below.alloc ?_ ?_ _); rotate_left; focus (first | (simp; done) | (simp; omega) | omega)) | ((with_reducible refine Below.setCell ?_ ?_ _); rotate_left; focus (first | (simp; done) | (simp; omega) | omega))))) (SY.out.below (by repeat (first | (with_reducible exact Below.refl _ _) | (with_reducible exact Below.refl _ _) | (with_reducible apply Below.drew) | (with_reducible apply below_alloc) | ((with_reducible refine Below.alloc ?_ ?_ _); rotate_left; focus (first | (simp; done) | (simp; omega) | omega)) | ((with_reducible refine Below.setCell ?_ ?_ _); rotate_left; focus (first | (simp; done) | (simp; omega) | omega)))))) ?_
  rintro e w12 ⟨rfl, hb⟩
  replace HB : Hid (Below w.heap.size w _) := below_step (by repeat (first | (with_reducible exact HB.out) | (with_reducible exact Below.refl _ _) | (with_reducible apply Below.drew) | (with_reducible apply below_alloc) | ((with_reducible refine Below.alloc ?_ ?_ _); rotate_left; focus (first | (simp; done) | (simp; omega) | omega)) | ((with_reducible refine Below.setCell ?_ ?_ _); rotate_left; focus (first | (simp; done) | (simp; omega) | omega)))) hb
  clear a0 a1 az al
  replace HA : Hid (Blk _ (w.heap.size) _ _) := Blk.step (by repeat (first | (with_reducible exact HA.out) | ((with_reducible apply Blk.new); focus (first | rfl | (simp; done) | (simp; omega))) | (with_reducible apply Blk.drew) | (with_reducible apply Blk.alloc) | (with_reducible apply Blk.set_) | ((with_reducible apply Blk.far); rotate_left; focus (first | (simp; done) | (simp; omega) | omega)))) hb
  obtain ⟨a0, a1, az⟩ := cells2 HA.out
  have al := Blk.lt HA.out
  clear q0 q1 qz ql
  replace HQ : Hid (Blk _ (w.heap.size + 1) _ _) := Blk.step (by repeat (first | (with_reducible exact HQ.out) | ((with_reducible apply Blk.new); focus (first | rfl | (simp; done) | (simp; omega))) | (with_reducible apply Blk.drew) | (with_reducible apply Blk.alloc) | (with_reducible apply Blk.set_) | ((with_reducible apply Blk.far); rotate_left; focus (first | (simp; done) | (simp; omega) | omega)))) hb
  obtain ⟨q0, q1, qz⟩ := cells2 HQ.out
  have ql := Blk.lt HQ.out
  clear o0 o1 oz ol
  replace HO : Hid (Blk _ (w3.heap.size) _ _) := Blk.step (by repeat (first | (with_reducible exact HO.out) | ((with_reducible apply Blk.new); focus (first | rfl | (simp; done) | (simp; omega))) | (with_reducible apply Blk.drew) | (with_reducible apply Blk.alloc) | (with_reducible apply Blk.set_) | ((with_reducible apply Blk.far); rotate_left; focus (first | (simp; done) | (simp; omega) | omega)))) hb
  obtain ⟨o0, o1, oz⟩ := cells2 HO.out
  have ol := Blk.lt HO.out
  clear u0 u1 uz ul
  replace HU : Hid (Blk _ (w4.heap.size) _ _) := Blk.step (by repeat (first | (with_reducible exact HU.out) | ((with_reducible apply Blk.new); focus (first | rfl | (simp; done) | (simp; omega))) | (with_reducible apply Blk.drew) | (with_reducible apply Blk.alloc) | (with_reducible apply Blk.set_) | ((with_reducible apply Blk.far); rotate_left; focus (first | (simp; done) | (simp; omega) | omega)))) hb
  obtain ⟨u0, u1, uz⟩ := cells2 HU.out
  have ul := Blk.lt HU.out
  clear x0 x1 xz xl
  replace HX : Hid (Blk _ (w6.heap.size) _ _) := Blk.step (by repeat (first | (with_reducible exact HX.out) | ((with_reducible apply Blk.new); focus (first | rfl | (simp; done) | (simp; omega))) | (with_reducible apply Blk.drew) | (with_reducible apply Blk.alloc) | (with_reducible apply Blk.set_) | ((with_reducible apply Blk.far); rotate_left; focus (first | (simp; done) | (simp; omega) | omega)))) hb
  obtain ⟨x0, x1, xz⟩ := cells2 HX.out
  have xl := Blk.lt HX.out
  clear z0 z1 zz zl
  replace HZ : Hid (Blk _ (w8.heap.size) _ _) := Blk.step (by repeat (first | (with_reducible exact HZ.out) | ((with_reducible apply Blk.new); focus (first | rfl | (simp; done) | (simp; omega))) | (with_reducible apply Blk.drew) | (with_reducible apply Blk.alloc) | (with_reducible apply Blk.set_) | ((with_reducible apply Blk.far); rotate_left; focus (first | (simp; done) | (simp; omega) | omega)))) hb
  obtain ⟨z0, z1, zz⟩ := cells2 HZ.out
  have zl := Blk.lt HZ.out
  clear g0 g1 gz gl
  replace HG : Hid (Blk _ (w9.heap.size) _ _) := Blk.step (by repeat (first | (with_reducible exact HG.out) | ((with_reducible apply Blk.new); focus (first | rfl | (simp; done) | (simp; omega))) | (with_reducible apply Blk.drew) | (with_reducible apply Blk.alloc) | (with_reducible apply Blk.set_) | ((with_reducible apply Blk.far); rotate_left; focus (first | (simp; done) | (simp; omega) | omega)))) hb
  obtain ⟨g0, g1, gz⟩ := cells2 HG.out
  have gl := Blk.lt HG.out
  clear l0 l1 lz ll
  replace HL : Hid (Blk _ (w10.heap.size) _ _) := Blk.step (by repeat (first | (with_reducible exact HL.out) | ((with_reducible apply Blk.new); focus (first | rfl | (simp; done) | (simp; omega))) | (with_reducible apply Blk.drew) | (with_reducible apply Blk.alloc) | (with_reducible apply Blk.set_) | ((with_reducible apply Blk.far); rotate_left; focus (first | (simp; done) | (simp; omega) | omega)))) hb
  obtain ⟨l0, l1, lz⟩ := cells2 HL.out
  have ll := Blk.lt HL.out
  replace SS : Hid (MdlR _ _ _) := mdlR_step SS.out (by repeat (first | (with_reducible exact Below.refl _ _) | (with_reducible exact Below.refl _ _) | (with_reducible apply Below.drew) | (with_reducible apply below_alloc) | ((with_reducible refine Below.alloc ?_ ?_ _); rotate_left; focus (first | (simp; done) | (simp; omega) | omega)) | ((with_reducible refine Below.setCell ?_ ?_ _); rotate_left; focus (first | (simp; done) | (simp; omega) | omega)))) hb
  replace SQ : Hid (MdlR _ _ _) := mdlR_step SQ.out (by repeat (first | (with_reducible exact Below.refl _ _) | (with_reducible exact Below.refl _ _) | (with_reducible apply Below.drew) | (with_reducible apply below_alloc) | ((with_reducible refine Below.alloc ?_ ?_ _); rotate_left; focus (first | (simp; done) | (simp; omega) | omega)) | ((with_reducible refine Below.setCell ?_ ?_ _); rotate_left; focus (first | (simp; done) | (simp; omega) | omega)))) hb
  replace SO : Hid (MdlR _ _ _) := mdlR_step SO.out (by repeat (first | (with_reducible exact Below.refl _ _) | (with_reducible exact Below.refl _ _) | (with_reducible apply Below.drew) | (with_reducible apply below_alloc) | ((with_reducible refine Below.alloc ?_ ?_ _); rotate_left; focus (first | (simp; done) | (simp; omega) | omega)) | ((with_reducible refine Below.setCell ?_ ?_ _); rotate_left; focus (first | (simp; done) | (simp; omega) | omega)))) hb
  replace SW : Hid (MdlR _ _ _) := mdlR_step SW.out (by repeat (first | (with_reducible exact Below.refl _ _) | (with_reducible exact Below.refl _ _) | (with_reducible apply Below.drew) | (with_reducible apply below_alloc) | ((with_reducible refine Below.alloc ?_ ?_ _); rotate_left; focus (first | (simp; done) | (simp; omega) | omega)) | ((with_reducible refine Below.setCell ?_ ?_ _); rotate_left; focus (first | (simp; done) | (simp; omega) | omega)))) hb
  replace TA : Hid (StrR _ _ _) := strR_step TA.out (by repeat (first | (with_reducible exact Below.refl _ _) | (with_reducible exact Below.refl _ _) | (with_reducible apply Below.drew) | (with_reducible apply below_alloc) | ((with_reducible refine Below.alloc ?_ ?_ _); rotate_left; focus (first | (simp; done) | (simp; omega) | omega)) | ((with_reducible refine Below.setCell ?_ ?_ _); rotate_left; focus (first | (simp; done) | (simp; omega) | omega)))) hb
  replace TB : Hid (StrR _ _ _) := strR_step TB.out (by repeat (first | (with_reducible exact Below.refl _ _) | (with_reducible exact Below.refl _ _) | (with_reducible apply Below.drew) | (with_reducible apply below_alloc) | ((with_reducible refine Below.alloc ?_ ?_ _); rotate_left; focus (first | (simp; done) | (simp; omega) | omega)) | ((with_reducible refine Below.setCell ?_ ?_ _); rotate_left; focus (first | (simp; done) | (simp; omega) | omega)))) hb
  replace H3 : Hid (Below w3.heap.size w3 _) := below_step (by repeat (first | (with_reducible exact H3.out) | (with_reducible exact Below.refl _ _) | (with_reducible apply Below.drew) | (with_reducible apply below_alloc) | ((with_reducible refine Below.alloc ?_ ?_ _); rotate_left; focus (first | (simp; done) | (simp; omega) | omega)) | ((with_reducible refine Below.setCell ?_ ?_ _); rotate_left; focus (first | (simp; done) | (simp; omega) | omega)))) hb
  replace KA : Hid (ShM _ (w3.heap.size + 1) w4.heap.size _) := Lib.hid (KA.out.step (by omega) hb)
  replace KX : Hid (ShM _ (w5.heap.size + 1) w6.heap.size _) := Lib.hid (KX.out.step (by omega) hb)
  replace KS : Hid (ShS _ (w7.heap.size + 1) w8.heap.size _) := Lib.hid (KS.out.step (by omega) hb)
  replace KW : Hid (ShM _ (w9.heap.size + 1) w10.heap.size _) := Lib.hid (KW.out.step (by omega) hb)
  have s12 : w11.heap.size ≤ w12.heap.size := hb.size
  clear hb y0 y1 yz yl HY SX SY
  go_wp2_with fail
  refine Calls.mono (ssame su (TA.out.below (by repeat (first | (with_reducible exact Below.refl _ _) | (with_reducible exact Below.refl _ _) | (with_reducible apply Below.drew) | (with_reducible apply below_alloc) | ((with_reducible refine Below.alloc ?_ ?_ _); rotate_left; focus (first | (simp; done) | (simp; omega) | omega)) | ((with_reducible refine Below.setCell ?_ ?_ _); rotate_left; focus (first | (simp; done) | (simp; omega) | omega))))) (TB.out.below (by repeat (first | (with_reducible exact Below.refl _ _) | (with_reducible exact Below.refl _ _) | (with_reducible apply Below.drew) | (with_reducible apply below_alloc) | ((with_reducible refine Below.alloc ?_ ?_ _); rotate_left; focus (first | (simp; done) | (simp; omega) | omega)) | ((with_reducible refine Below.setCell ?_ ?_ _); rotate_left; focus (first | (simp; done) | (simp; omega) | omega)))))) ?_
  rintro e w13 ⟨rfl, hb⟩
  replace HB : Hid (Below w.heap.size w _) := below_step (by repeat (first | (with_reducible exact HB.out) | (with_reducible exact Below.refl _ _) | (with_reducible apply Below.drew) | (with_reducible apply below_alloc) | ((with_reducible refine Below.alloc ?_ ?_ _); rotate_left; focus (first | (simp; done) | (simp; omega) | omega)) | ((with_reducible refine Below.setCell ?_ ?_ _); rotate_left; focus (first | (simp; done) | (simp; omega) | omega)))) hb
  clear a0 a1 az al
  replace HA : Hid (Blk _ (w.heap.size) _ _) := Blk.step (by repeat (first | (with_reducible exact HA.out) | ((with_reducible apply Blk.new); focus (first | rfl | (simp; done) | (simp; omega))) | (with_reducible apply Blk.drew) | (with_reducible apply Blk.alloc) | (with_reducible apply Blk.set_) | ((with_reducible apply Blk.far); rotate_left; focus (first | (simp; done) | (simp; omega) | omega)))) hb
  obtain ⟨a0, a1, az⟩ := cells2 HA.out
  have al := Blk.lt HA.out
  clear q0 q1 qz ql
  replace HQ : Hid (Blk _ (w.heap.size + 1) _ _) := Blk.step (by repeat (first | (with_reducible exact HQ.out) | ((with_reducible apply Blk.new); focus (first | rfl | (simp; done) | (simp; omega))) | (with_reducible apply Blk.drew) | (with_reducible apply Blk.alloc) | (with_reducible apply Blk.set_) | ((with_reducible apply Blk.far); rotate_left; focus (first | (simp; done) | (simp; omega) | omega)))) hb
  obtain ⟨q0, q1, qz⟩ := cells2 HQ.out
  have ql := Blk.lt HQ.out
  clear o0 o1 oz ol
  replace HO : Hid (Blk _ (w3.heap.size) _ _) := Blk.step (by repeat (first | (with_reducible exact HO.out) | ((with_reducible apply Blk.new); focus (first | rfl | (simp; done) | (simp; omega))) | (with_reducible apply Blk.drew) | (with_reducible apply Blk.alloc) | (with_reducible apply Blk.set_) | ((with_reducible apply Blk.far); rotate_left; focus (first | (simp; done) | (simp; omega) | omega)))) hb
  obtain ⟨o0, o1, oz⟩ := cells2 HO.out
  have ol := Blk.lt HO.out
  clear u0 u1 uz ul
  replace HU : Hid (Blk _ (w4.heap.size) _ _) := Blk.step (by repeat (first | (with_reducible exact HU.out) | ((with_reducible apply Blk.new); focus (first | rfl | (simp; done) | (simp; omega))) | (with_reducible apply Blk.drew) | (with_reducible apply Blk.alloc) | (with_reducible apply Blk.set_) | ((with_reducible apply Blk.far); rotate_left; focus (first | (simp; done) | (simp; omega) | omega)))) hb
  obtain ⟨u0, u1, uz⟩ := cells2 HU.out
  have ul := Blk.lt HU.out
  clear x0 x1 xz xl
  replace HX : Hid (Blk _ (w6.heap.size) _ _) := Blk.step (by repeat (first | (with_reducible exact HX.out) | ((with_reducible apply Blk.new); focus (first | rfl | (simp; done) | (simp; omega))) | (with_reducible apply Blk.drew) | (with_reducible apply Blk.alloc) | (with_reducible apply Blk.set_) | ((with_reducible apply Blk.far); rotate_left; focus (first | (simp; done) | (simp; omega) | omega)))) hb
  obtain ⟨x0, x1, xz⟩ := cells2 HX.out
  have xl := Blk.lt HX.out
  clear z0 z1 zz zl
  replace HZ : Hid (Blk _ (w8.heap.size) _ _) := Blk.step (by repeat (first | (with_reducible exact HZ.out) | ((with_reducible apply Blk.new); focus (first | rfl | (simp; done) | (simp; omega))) | (with_reducible apply Blk.drew) | (with_reducible apply Blk.alloc) | (with_reducible apply Blk.set_) | ((with_reducible apply Blk.far); rotate_left; focus (first | (simp; done) | (simp; omega) | omega)))) hb
  obtain ⟨z0, z1, zz⟩ := cells2 HZ.out
  have zl := Blk.lt HZ.out
  clear l0 l1 lz ll
  replace HL : Hid (Blk _ (w10.heap.size) _ _) := Blk.step (by repeat (first | (with_reducible exact HL.out) | ((with_reducible apply Blk.new); focus (first | rfl | (simp; done) | (simp; omega))) | (with_reducible apply Blk.drew) | (with_reducible apply Blk.alloc) | (with_reducible apply Blk.set_) | ((with_reducible apply Blk.far); rotate_left; focus (first | (simp; done) | (simp; omega) | omega)))) hb
  obtain ⟨l0, l1, lz⟩ := cells2 HL.out
  have ll := Blk.lt HL.out
  replace SS : Hid (MdlR _ _ _) := mdlR_step SS.out (by repeat (first | (with_reducible exact Below.refl _ _) | (with_reducible exact Below.refl _ _) | (with_reducible apply Below.drew) | (with_reducible apply below_alloc) | ((with_reducible refine Below.alloc ?_ ?_ _); rotate_left; focus (first | (simp; done) | (simp; omega) | omega)) | ((with_reducible refine Below.setCell ?_ ?_ _); rotate_left; focus (first | (simp; done) | (simp; omega) | omega)))) hb
  replace SQ : Hid (MdlR _ _ _) := mdlR_step SQ.out (by repeat (first | (with_reducible exact Below.refl _ _) | (with_reducible exact Below.refl _ _) | (with_reducible apply Below.drew) | (with_reducible apply below_alloc) | ((with_reducible refine Below.alloc ?_ ?_ _); rotate_left; focus (first | (simp; done) | (simp; omega) | omega)) | ((with_reducible refine Below.setCell ?_ ?_ _); rotate_left; focus (first | (simp; done) | (simp; omega) | omega)))) hb
  replace SO : Hid (MdlR _ _ _) := mdlR_step SO.out (by repeat (first | (with_reducible exact Below.refl _ _) | (with_reducible exact Below.refl _ _) | (with_reducible apply Below.drew) | (with_reducible apply below_alloc) | ((with_reducible refine Below.alloc ?_ ?_ _); rotate_left; focus (first | (simp; done) | (simp; omega) | omega)) | ((with_reducible refine Below.setCell ?_ ?_ _); rotate_left; focus (first | (simp; done) | (simp; omega) | omega)))) hb
  replace SW : Hid (MdlR _ _ _) := mdlR_step SW.out (by repeat (first | (with_reducible exact Below.refl _ _) | (with_reducible exact Below.refl _ _) | (with_reducible apply Below.drew) | (with_reducible apply below_alloc) | ((with_reducible refine Below.alloc ?_ ?_ _); rotate_left; focus (first | (simp; done) | (simp; omega) | omega)) | ((with_reducible refine Below.setCell ?_ ?_ _); rotate_left; focus (first | (simp; done) | (simp; omega) | omega)))) hb
  replace H3 : Hid (Below w3.heap.size w3 _) := below_step (by repeat (first | (with_reducible exact H3.out) | (with_reducible exact Below.refl _ _) | (with_reducible apply Below.drew) | (with_reducible apply below_alloc) | ((with_reducible refine Below.alloc ?_ ?_ _); rotate_left; focus (first | (simp; done) | (simp; omega) | omega)) | ((with_reducible refine Below.setCell ?_ ?_ _); rotate_left; focus (first | (simp; done) | (simp; omega) | omega)))) hb
  replace KA : Hid (ShM _ (w3.heap.size + 1) w4.heap.size _) := Lib.hid (KA.out.step (by omega) hb)
  replace KX : Hid (ShM _ (w5.heap.size + 1) w6.heap.size _) := Lib.hid (KX.out.step (by omega) hb)
  replace KS : Hid (ShS _ (w7.heap.size + 1) w8.heap.size _) := Lib.hid (KS.out.step (by omega) hb)
  replace KW : Hid (ShM _ (w9.heap.size + 1) w10.heap.size _) := Lib.hid (KW.out.step (by omega) hb)
  have s13 : w12.heap.size ≤ w13.heap.size := hb.size
  clear hb g0 g1 gz gl HG TA TB
  go_upto_region 12 with fail
  go_cut [26] (fun c wx => c = .bool true ∧ Hid (Below w13.heap.size w13 wx))
  case first =>
    have KC : Hid (∀ W' : World, Below w13.heap.size w13 W' → (((W'.cell? ⟨w.heap.size, 0, none⟩ = some (.slice a s.tops.length cap) ∧ W'.cell? ⟨w.heap.size, 1, none⟩ = some (.slice b nc cc)) ∧ W'.cell? ⟨w.heap.size + 1, 0, none⟩ = some (.slice a' so.tops.length cap') ∧ W'.cell? ⟨w.heap.size + 1, 1, none⟩ = some (.slice b' nc' cc')) ∧ (W'.cell? ⟨w3.heap.size, 0, none⟩ = some (.slice a3 s.tops.length cap3) ∧ W'.cell? ⟨w3.heap.size, 1, none⟩ = some (.slice b3 nc3 cc3)) ∧ W'.cell? ⟨w10.heap.size, 0, none⟩ = some (.slice a10 s.tops.length cap10) ∧ W'.cell? ⟨w10.heap.size, 1, none⟩ = some (.slice b10 nc10 cc10))) := fun W' hb => by
      have c := fun (p : Addr) (hp : p.block < w13.heap.size) => hb.cell hp
      refine ⟨⟨⟨(c _ ?_).trans a0, (c _ ?_).trans a1⟩, (c _ ?_).trans q0, (c _ ?_).trans q1⟩, ⟨(c _ ?_).trans o0, (c _ ?_).trans o1⟩, (c _ ?_).trans l0, (c _ ?_).trans l1⟩ <;> (simp only []; omega)
    have KT2 := KC.out w13 (Below.refl _ _)
    have HR : Hid (Below w13.heap.size w13 w13) := Lib.hid (Below.refl _ _)
    clear u0 u1 uz ul x0 x1 xz xl z0 z1 zz zl a0 a1 az al q0 q1 qz ql o0 o1 oz ol l0 l1 lz ll
    go_region_held3 (fun W' => (((W'.cell? ⟨w.heap.size, 0, none⟩ = some (.slice a s.tops.length cap) ∧ W'.cell? ⟨w.heap.size, 1, none⟩ = some (.slice b nc cc)) ∧ W'.cell? ⟨w.heap.size + 1, 0, none⟩ = some (.slice a' so.tops.length cap') ∧ W'.cell? ⟨w.heap.size + 1, 1, none⟩ = some (.slice b' nc' cc')) ∧ (W'.cell? ⟨w3.heap.size, 0, none⟩ = some (.slice a3 s.tops.length cap3) ∧ W'.cell? ⟨w3.heap.size, 1, none⟩ = some (.slice b3 nc3 cc3)) ∧ W'.cell? ⟨w10.heap.size, 0, none⟩ = some (.slice a10 s.tops.length cap10) ∧ W'.cell? ⟨w10.heap.size, 1, none⟩ = some (.slice b10 nc10 cc10)))
      (first | (with_reducible exact KT2) | (refine KC.out _ ?_; (repeat (first | (with_reducible exact HR.out) | (with_reducible exact Below.refl _ _) | (with_reducible apply Below.drew) | (with_reducible apply below_alloc) | ((with_reducible refine Below.alloc ?_ ?_ _); rotate_left; focus (first | (simp; done) | (simp; omega) | omega)) | ((with_reducible refine Below.setCell ?_ ?_ _); rotate_left; focus (first | (simp; done) | (simp; omega) | omega)))); done))
      (first | (go_at_call 16; refine Calls.mono (rsame newM (N1.out.below (by repeat (first | (with_reducible exact Below.refl _ _) | (with_reducible exact Below.refl _ _) | (with_reducible apply Below.drew) | (with_reducible apply below_alloc) | ((with_reducible refine Below.alloc ?_ ?_ _); rotate_left; focus (first | (simp; done) | (simp; omega) | omega)) | ((with_reducible refine Below.setCell ?_ ?_ _); rotate_left; focus (first | (simp; done) | (simp; omega) | omega))))) (N2.out.below (by repeat (first | (with_reducible exact Below.refl _ _) | (with_reducible exact Below.refl _ _) | (with_reducible apply Below.drew) | (with_reducible apply below_alloc) | ((with_reducible refine Below.alloc ?_ ?_ _); rotate_left; focus (first | (simp; done) | (simp; omega) | omega)) | ((with_reducible refine Below.setCell ?_ ?_ _); rotate_left; focus (first | (simp; done) | (simp; omega) | omega)))))) ?_; rintro e wk ⟨rfl, hb⟩; have HR : Hid (Below w13.heap.size w13 wk) := below_step (by repeat (first | (with_reducible exact HR.out) | (with_reducible exact Below.refl _ _) | (with_reducible apply Below.drew) | (with_reducible apply below_alloc) | ((with_reducible refine Below.alloc ?_ ?_ _); rotate_left; focus (first | (simp; done) | (simp; omega) | omega)) | ((with_reducible refine Below.setCell ?_ ?_ _); rotate_left; focus (first | (simp; done) | (simp; omega) | omega)))) hb; clear hb) | (go_at_call 16; refine Calls.mono (rsame s (SW.out.below (by repeat (first | (with_reducible exact HR.out) | (with_reducible exact Below.refl _ _) | (with_reducible apply Below.drew) | (with_reducible apply below_alloc) | ((with_reducible refine Below.alloc ?_ ?_ _); rotate_left; focus (first | (simp; done) | (simp; omega) | omega)) | ((with_reducible refine Below.setCell ?_ ?_ _); rotate_left; focus (first | (simp; done) | (simp; omega) | omega))))) (SS.out.below (by repeat (first | (with_reducible exact HR.out) | (with_reducible exact Below.refl _ _) | (with_reducible apply Below.drew) | (with_reducible apply below_alloc) | ((with_reducible refine Below.alloc ?_ ?_ _); rotate_left; focus (first | (simp; done) | (simp; omega) | omega)) | ((with_reducible refine Below.setCell ?_ ?_ _); rotate_left; focus (first | (simp; done) | (simp; omega) | omega)))))) ?_; rintro e wk ⟨rfl, hb⟩; have HR : Hid (Below w13.heap.size w13 wk) := below_step (by repeat (first | (with_reducible exact HR.out) | (with_reducible exact Below.refl _ _) | (with_reducible apply Below.drew) | (with_reducible apply below_alloc) | ((with_reducible refine Below.alloc ?_ ?_ _); rotate_left; focus (first | (simp; done) | (simp; omega) | omega)) | ((with_reducible refine Below.setCell ?_ ?_ _); rotate_left; focus (first | (simp; done) | (simp; omega) | omega)))) hb; clear hb) | (go_at_call 16; refine Calls.mono (rsame_q (SS.out.below (by repeat (first | (with_reducible exact HR.out) | (with_reducible exact Below.refl _ _) | (with_reducible apply Below.drew) | (with_reducible apply below_alloc) | ((with_reducible refine Below.alloc ?_ ?_ _); rotate_left; focus (first | (simp; done) | (simp; omega) | omega)) | ((with_reducible refine Below.setCell ?_ ?_ _); rotate_left; focus (first | (simp; done) | (simp; omega) | omega))))) (SQ.out.below (by repeat (first | (with_reducible exact HR.out) | (with_reducible exact Below.refl _ _) | (with_reducible apply Below.drew) | (with_reducible apply below_alloc) | ((with_reducible refine Below.alloc ?_ ?_ _); rotate_left; focus (first | (simp; done) | (simp; omega) | omega)) | ((with_reducible refine Below.setCell ?_ ?_ _); rotate_left; focus (first | (simp; done) | (simp; omega) | omega))))) QSS.out) ?_; rintro e wk ⟨rfl, hb⟩; have HR : Hid (Below w13.heap.size w13 wk) := below_step (by repeat (first | (with_reducible exact HR.out) | (with_reducible exact Below.refl _ _) | (with_reducible apply Below.drew) | (with_reducible apply below_alloc) | ((with_reducible refine Below.alloc ?_ ?_ _); rotate_left; focus (first | (simp; done) | (simp; omega) | omega)) | ((with_reducible refine Below.setCell ?_ ?_ _); rotate_left; focus (first | (simp; done) | (simp; omega) | omega)))) hb; clear hb) | (go_at_call 27; refine Calls.mono (psame s (SO.out.below (by repeat (first | (with_reducible exact HR.out) | (with_reducible exact Below.refl _ _) | (with_reducible apply Below.drew) | (with_reducible apply below_alloc) | ((with_reducible refine Below.alloc ?_ ?_ _); rotate_left; focus (first | (simp; done) | (simp; omega) | omega)) | ((with_reducible refine Below.setCell ?_ ?_ _); rotate_left; focus (first | (simp; done) | (simp; omega) | omega))))) (SS.out.below (by repeat (first | (with_reducible exact HR.out) | (with_reducible exact Below.refl _ _) | (with_reducible apply Below.drew) | (with_reducible apply below_alloc) | ((with_reducible refine Below.alloc ?_ ?_ _); rotate_left; focus (first | (simp; done) | (simp; omega) | omega)) | ((with_reducible refine Below.setCell ?_ ?_ _); rotate_left; focus (first | (simp; done) | (simp; omega) | omega)))))) ?_; rintro e wk ⟨rfl, hb⟩; have HR : Hid (Below w13.heap.size w13 wk) := below_step (by repeat (first | (with_reducible exact HR.out) | (with_reducible exact Below.refl _ _) | (with_reducible apply Below.drew) | (with_reducible apply below_alloc) | ((with_reducible refine Below.alloc ?_ ?_ _); rotate_left; focus (first | (simp; done) | (simp; omega) | omega)) | ((with_reducible refine Below.setCell ?_ ?_ _); rotate_left; focus (first | (simp; done) | (simp; omega) | omega)))) hb; clear hb) | (go_at_call 27; refine Calls.mono (psame_q (SS.out.below (by repeat (first | (with_reducible exact HR.out) | (with_reducible exact Below.refl _ _) | (with_reducible apply Below.drew) | (with_reducible apply below_alloc) | ((with_reducible refine Below.alloc ?_ ?_ _); rotate_left; focus (first | (simp; done) | (simp; omega) | omega)) | ((with_reducible refine Below.setCell ?_ ?_ _); rotate_left; focus (first | (simp; done) | (simp; omega) | omega))))) (SQ.out.below (by repeat (first | (with_reducible exact HR.out) | (with_reducible exact Below.refl _ _) | (with_reducible apply Below.drew) | (with_reducible apply below_alloc) | ((with_reducible refine Below.alloc ?_ ?_ _); rotate_left; focus (first | (simp; done) | (simp; omega) | omega)) | ((with_reducible refine Below.setCell ?_ ?_ _); rotate_left; focus (first | (simp; done) | (simp; omega) | omega))))) QSS.out) ?_; rintro e wk ⟨rfl, hb⟩; have HR : Hid (Below w13.heap.size w13 wk) := below_step (by repeat (first | (with_reducible exact HR.out) | (with_reducible exact Below.refl _ _) | (with_reducible apply Below.drew) | (with_reducible apply below_alloc) | ((with_reducible refine Below.alloc ?_ ?_ _); rotate_left; focus (first | (simp; done) | (simp; omega) | omega)) | ((with_reducible refine Below.setCell ?_ ?_ _); rotate_left; focus (first | (simp; done) | (simp; omega) | omega)))) hb; clear hb) | (go_at_call 25; refine Calls.mono (mdlCheck_any (SO.out.below (by repeat (first | (with_reducible exact HR.out) | (with_reducible exact Below.refl _ _) | (with_reducible apply Below.drew) | (with_reducible apply below_alloc) | ((with_reducible refine Below.alloc ?_ ?_ _); rotate_left; focus (first | (simp; done) | (simp; omega) | omega)) | ((with_reducible refine Below.setCell ?_ ?_ _); rotate_left; focus (first | (simp; done) | (simp; omega) | omega))))) HFW.out c8 CHK.out) ?_; rintro e wk ⟨rfl, hb⟩; have HR : Hid (Below w13.heap.size w13 wk) := below_step (by repeat (first | (with_reducible exact HR.out) | (with_reducible exact Below.refl _ _) | (with_reducible apply Below.drew) | (with_reducible apply below_alloc) | ((with_reducible refine Below.alloc ?_ ?_ _); rotate_left; focus (first | (simp; done) | (simp; omega) | omega)) | ((with_reducible refine Below.setCell ?_ ?_ _); rotate_left; focus (first | (simp; done) | (simp; omega) | omega)))) hb; clear hb) | (go_at_call 26; refine Calls.mono (refMdlCheck_any (SS.out.below (by repeat (first | (with_reducible exact HR.out) | (with_reducible exact Below.refl _ _) | (with_reducible apply Below.drew) | (with_reducible apply below_alloc) | ((with_reducible refine Below.alloc ?_ ?_ _); rotate_left; focus (first | (simp; done) | (simp; omega) | omega)) | ((with_reducible refine Below.setCell ?_ ?_ _); rotate_left; focus (first | (simp; done) | (simp; omega) | omega))))) c8 CHK.out) ?_; rintro e wk ⟨rfl, hb⟩; have HR : Hid (Below w13.heap.size w13 wk) := below_step (by repeat (first | (with_reducible exact HR.out) | (with_reducible exact Below.refl _ _) | (with_reducible apply Below.drew) | (with_reducible apply below_alloc) | ((with_reducible refine Below.alloc ?_ ?_ _); rotate_left; focus (first | (simp; done) | (simp; omega) | omega)) | ((with_reducible refine Below.setCell ?_ ?_ _); rotate_left; focus (first | (simp; done) | (simp; omega) | omega)))) hb; clear hb) | (go_at_call 28; refine Calls.mono (mdlNew_any _) ?_; rintro e wk ⟨ta, tc, rfl, os, hb⟩; have N1 : Hid (MdlR wk _ newM) := Lib.hid os.reads; have HR : Hid (Below w13.heap.size w13 wk) := below_step (by repeat (first | (with_reducible exact HR.out) | (with_reducible exact Below.refl _ _) | (with_reducible apply Below.drew) | (with_reducible apply below_alloc) | ((with_reducible refine Below.alloc ?_ ?_ _); rotate_left; focus (first | (simp; done) | (simp; omega) | omega)) | ((with_reducible refine Below.setCell ?_ ?_ _); rotate_left; focus (first | (simp; done) | (simp; omega) | omega)))) hb; first | (have N2 := mdlR_step N2.out (by repeat (first | (with_reducible exact Below.refl _ _) | (with_reducible exact Below.refl _ _) | (with_reducible apply Below.drew) | (with_reducible apply below_alloc) | ((with_reducible refine Below.alloc ?_ ?_ _); rotate_left; focus (first | (simp; done) | (simp; omega) | omega)) | ((with_reducible refine Below.setCell ?_ ?_ _); rotate_left; focus (first | (simp; done) | (simp; omega) | omega)))) hb) | skip; clear hb os) | (go_at_call 29; refine Calls.mono (mdlRNew_any _) ?_; rintro e wk ⟨ta, tc, rfl, os, hb⟩; have N2 : Hid (MdlR wk _ newM) := Lib.hid os.reads; have HR : Hid (Below w13.heap.size w13 wk) := below_step (by repeat (first | (with_reducible exact HR.out) | (with_reducible exact Below.refl _ _) | (with_reducible apply Below.drew) | (with_reducible apply below_alloc) | ((with_reducible refine Below.alloc ?_ ?_ _); rotate_left; focus (first | (simp; done) | (simp; omega) | omega)) | ((with_reducible refine Below.setCell ?_ ?_ _); rotate_left; focus (first | (simp; done) | (simp; omega) | omega)))) hb; first | (have N1 := mdlR_step N1.out (by repeat (first | (with_reducible exact Below.refl _ _) | (with_reducible exact Below.refl _ _) | (with_reducible apply Below.drew) | (with_reducible apply below_alloc) | ((with_reducible refine Below.alloc ?_ ?_ _); rotate_left; focus (first | (simp; done) | (simp; omega) | omega)) | ((with_reducible refine Below.setCell ?_ ?_ _); rotate_left; focus (first | (simp; done) | (simp; omega) | omega)))) hb) | skip; clear hb os))
    all_goals
      go_wp2_with fail
      go_meet
      case rel => exact ⟨rfl, HR⟩
  case rest =>
    obtain ⟨rfl, hb⟩ := hcut
    replace HB : Hid (Below w.heap.size w _) := below_step (by repeat (first | (with_reducible exact HB.out) | (with_reducible exact Below.refl _ _) | (with_reducible apply Below.drew) | (with_reducible apply below_alloc) | ((with_reducible refine Below.alloc ?_ ?_ _); rotate_left; focus (first | (simp; done) | (simp; omega) | omega)) | ((with_reducible refine Below.setCell ?_ ?_ _); rotate_left; focus (first | (simp; done) | (simp; omega) | omega)))) hb.out
    clear a0 a1 az al
    replace HA : Hid (Blk _ (w.heap.size) _ _) := Blk.step (by repeat (first | (with_reducible exact HA.out) | ((with_reducible apply Blk.new); focus (first | rfl | (simp; done) | (simp; omega))) | (with_reducible apply Blk.drew) | (with_reducible apply Blk.alloc) | (with_reducible apply Blk.set_) | ((with_reducible apply Blk.far); rotate_left; focus (first | (simp; done) | (simp; omega) | omega)))) hb.out
    obtain ⟨a0, a1, az⟩ := cells2 HA.out
    have al := Blk.lt HA.out
    clear o0 o1 oz ol
    replace HO : Hid (Blk _ (w3.heap.size) _ _) := Blk.step (by repeat (first | (with_reducible exact HO.out) | ((with_reducible apply Blk.new); focus (first | rfl | (simp; done) | (simp; omega))) | (with_reducible apply Blk.drew) | (with_reducible apply Blk.alloc) | (with_reducible apply Blk.set_) | ((with_reducible apply Blk.far); rotate_left; focus (first | (simp; done) | (simp; omega) | omega)))) hb.out
    obtain ⟨o0, o1, oz⟩ := cells2 HO.out
    have ol := Blk.lt HO.out
    clear u0 u1 uz ul
    replace HU : Hid (Blk _ (w4.heap.size) _ _) := Blk.step (by repeat (first | (with_reducible exact HU.out) | ((with_reducible apply Blk.new); focus (first | rfl | (simp; done) | (simp; omega))) | (with_reducible apply Blk.drew) | (with_reducible apply Blk.alloc) | (with_reducible apply Blk.set_) | ((with_reducible apply Blk.far); rotate_left; focus (first | (simp; done) | (simp; omega) | omega)))) hb.out
    obtain ⟨u0, u1, uz⟩ := cells2 HU.out
    have ul := Blk.lt HU.out
    clear x0 x1 xz xl
    replace HX : Hid (Blk _ (w6.heap.size) _ _) := Blk.step (by repeat (first | (with_reducible exact HX.out) | ((with_reducible apply Blk.new); focus (first | rfl | (simp; done) | (simp; omega))) | (with_reducible apply Blk.drew) | (with_reducible apply Blk.alloc) | (with_reducible apply Blk.set_) | ((with_reducible apply Blk.far); rotate_left; focus (first | (simp; done) | (simp; omega) | omega)))) hb.out
    obtain ⟨x0, x1, xz⟩ := cells2 HX.out
    have xl := Blk.lt HX.out
    clear z0 z1 zz zl
    replace HZ : Hid (Blk _ (w8.heap.size) _ _) := Blk.step (by repeat (first | (with_reducible exact HZ.out) | ((with_reducible apply Blk.new); focus (first | rfl | (simp; done) | (simp; omega))) | (with_reducible apply Blk.drew) | (with_reducible apply Blk.alloc) | (with_reducible apply Blk.set_) | ((with_reducible apply Blk.far); rotate_left; focus (first | (simp; done) | (simp; omega) | omega)))) hb.out
    obtain ⟨z0, z1, zz⟩ := cells2 HZ.out
    have zl := Blk.lt HZ.out
    clear l0 l1 lz ll
    replace HL : Hid (Blk _ (w10.heap.size) _ _) := Blk.step (by repeat (first | (with_reducible exact HL.out) | ((with_reducible apply Blk.new); focus (first | rfl | (simp; done) | (simp; omega))) | (with_reducible apply Blk.drew) | (with_reducible apply Blk.alloc) | (with_reducible apply Blk.set_) | ((with_reducible apply Blk.far); rotate_left; focus (first | (simp; done) | (simp; omega) | omega)))) hb.out
    obtain ⟨l0, l1, lz⟩ := cells2 HL.out
    have ll := Blk.lt HL.out
    replace SS : Hid (MdlR _ _ _) := mdlR_step SS.out (by repeat (first | (with_reducible exact Below.refl _ _) | (with_reducible exact Below.refl _ _) | (with_reducible apply Below.drew) | (with_reducible apply below_alloc) | ((with_reducible refine Below.alloc ?_ ?_ _); rotate_left; focus (first | (simp; done) | (simp; omega) | omega)) | ((with_reducible refine Below.setCell ?_ ?_ _); rotate_left; focus (first | (simp; done) | (simp; omega) | omega)))) hb.out
    replace H3 : Hid (Below w3.heap.size w3 _) := below_step (by repeat (first | (with_reducible exact H3.out) | (with_reducible exact Below.refl _ _) | (with_reducible apply Below.drew) | (with_reducible apply below_alloc) | ((with_reducible refine Below.alloc ?_ ?_ _); rotate_left; focus (first | (simp; done) | (simp; omega) | omega)) | ((with_reducible refine Below.setCell ?_ ?_ _); rotate_left; focus (first | (simp; done) | (simp; omega) | omega)))) hb.out
    replace KA := Lib.hid (KA.out.step (by omega) hb.out)
    replace KX := Lib.hid (KX.out.step (by omega) hb.out)
    replace KS := Lib.hid (KS.out.step (by omega) hb.out)
    replace KW := Lib.hid (KW.out.step (by omega) hb.out)
    have s14 : w13.heap.size ≤ wc.heap.size := hb.out.size
    clear hb SO SW SQ q0 q1 qz ql HQ
    go_wp2_with fail
    refine Calls.mono (mdlSpoil_any KA.out (by omega) (by omega)) ?_
    rintro e w14 ⟨⟨r, rfl⟩, hb, hf⟩
    have HFR := Lib.hid hf
    replace HB : Hid (Below w.heap.size w w14) := Lib.hid (HB.out.trans (hb.mono (by omega)))
    replace H3 : Hid (Below w3.heap.size w3 w14) := Lib.hid (H3.out.trans (hb.mono (by omega)))
    clear a0 a1 az al o0 o1 oz ol u0 u1 uz ul x0 x1 xz xl z0 z1 zz zl l0 l1 lz ll HU SS
    replace HA := Lib.hid (HA.out.below hb (by omega))
    replace HO := Lib.hid (HO.out.below hb (by omega))
    replace HX := Lib.hid (Blk.eq HX.out (HFR.out _ (by omega) (by omega)))
    replace HZ := Lib.hid (Blk.eq HZ.out (HFR.out _ (by omega) (by omega)))
    replace HL := Lib.hid (Blk.eq HL.out (HFR.out _ (by omega) (by omega)))
    replace KX := Lib.hid (KX.out.band (fun K h1 h2 => HFR.out K (by omega) (by omega)))
    replace KS := Lib.hid (KS.out.band (fun K h1 h2 => HFR.out K (by omega) (by omega)))
    replace KW := Lib.hid (KW.out.band (fun K h1 h2 => HFR.out K (by omega) (by omega)))
    have s15 : wc.heap.size ≤ w14.heap.size := hb.size
    clear hb hf HFR KA
    obtain ⟨a0, a1, az⟩ := cells2 HA.out
    obtain ⟨o0, o1, oz⟩ := cells2 HO.out
    obtain ⟨x0, x1, xz⟩ := cells2 HX.out
    obtain ⟨z0, z1, zz⟩ := cells2 HZ.out
    obtain ⟨l0, l1, lz⟩ := cells2 HL.out
    go_wp2_with fail
    refine Calls.mono (mdlSpoil_any KX.out (by omega) (by omega)) ?_
    rintro e w15 ⟨⟨r2, rfl⟩, hb, hf⟩
    have HFR := Lib.hid hf
    replace HB : Hid (Below w.heap.size w w15) := Lib.hid (HB.out.trans (hb.mono (by omega)))
    replace H3 : Hid (Below w3.heap.size w3 w15) := Lib.hid (H3.out.trans (hb.mono (by omega)))
    clear a0 a1 az o0 o1 oz x0 x1 xz z0 z1 zz l0 l1 lz HX
    replace HA := Lib.hid (HA.out.below hb (by omega))
    replace HO := Lib.hid (HO.out.below hb (by omega))
    replace HZ := Lib.hid (Blk.eq HZ.out (HFR.out _ (by omega) (by omega)))
    replace HL := Lib.hid (Blk.eq HL.out (HFR.out _ (by omega) (by omega)))
    replace KS := Lib.hid (KS.out.band (fun K h1 h2 => HFR.out K (by omega) (by omega)))
    replace KW := Lib.hid (KW.out.band (fun K h1 h2 => HFR.out K (by omega) (by omega)))
    have s16 : w14.heap.size ≤ w15.heap.size := hb.size
    clear hb hf HFR KX
    obtain ⟨a0, a1, az⟩ := cells2 HA.out
    obtain ⟨o0, o1, oz⟩ := cells2 HO.out
    obtain ⟨z0, z1, zz⟩ := cells2 HZ.out
    obtain ⟨l0, l1, lz⟩ := cells2 HL.out
    go_wp2_with fail
    refine Calls.mono (mdlSpoil_any KW.out (by omega) (by omega)) ?_
    rintro e w16 ⟨⟨r3, rfl⟩, hb, -⟩
    replace HB : Hid (Below w.heap.size w w16) := Lib.hid (HB.out.trans (hb.mono (by omega)))
    replace H3 : Hid (Below w3.heap.size w3 w16) := Lib.hid (H3.out.trans (hb.mono (by omega)))
    clear a0 a1 az o0 o1 oz z0 z1 zz l0 l1 lz HL KW
    replace HA := Lib.hid (HA.out.below hb (by omega))
    replace HO := Lib.hid (HO.out.below hb (by omega))
    replace HZ := Lib.hid (HZ.out.below hb (by omega))
    replace KS := Lib.hid (KS.out.band (fun K h1 h2 => hb.block K (by omega)))
    have s17 : w15.heap.size ≤ w16.heap.size := hb.size
    clear hb
    obtain ⟨ta, tc, us, rs, ev, ⟨hT1, hT2⟩, -, -⟩ := KS.out
    cases ev
    obtain ⟨a0', cap0', ev, ⟨hcap, hmx⟩, -⟩ := RowX.shape ⟨_, hT1.choose_spec.1⟩
    injection ev with e1 e2 e3
    subst e1
    subst e3
    clear KS
    obtain ⟨sn, hsn⟩ : ∃ sn, sn = su.tops.length := ⟨_, rfl⟩
    rw [← hsn] at hT1 hT2 HZ e2
    rw [← e2] at hcap
    have HN := Lib.hid e2
    have LT := Lib.hid hT2
    have HT := Lib.hid hT1
    have HF : Hid (FrS (w7.heap.size + 1) w8.heap.size w16 w16) := Lib.hid ⟨Below.refl _ _, fun _ _ _ => rfl⟩
    have BD := Lib.hid (show (w.heap.size + 2 < w3.heap.size ∧ w3.heap.size < w7.heap.size ∧ w7.heap.size < w8.heap.size) ∧ w8.heap.size < w16.heap.size ∧ w7.heap.size + 1 ≤ w16.heap.size by omega)
    unfold maxLen at hmx
    have nn0 : (sn : Int) ≤ 9223372036854775807 := by omega
    obtain ⟨z0, z1, zz⟩ := cells2 HZ.out
    clear hsn e2 hT1 hT2 s3 s4 s5 s6 s7 s8 s9 s10 s11 s12 s13 s14 s15 s16 s17
    go_wp2_with fail
    go_loopg [27] sn (fun g' i wr => ∃ k : Nat, k ≤ sn ∧ g' = sn - k ∧ i = .int .i64 (k : Int) ∧ Hid (ShT wr (w7.heap.size + 1) (.slice a8 sn cap8) us) ∧ Hid (FrS (w7.heap.size + 1) w8.heap.size w16 wr) ∧ Hid (Blk wr w8.heap.size 58 [.slice a8 sn cap8, .slice b8 nc8 cc8]))
    case atStart => exact ⟨0, Nat.zero_le _, rfl, rfl, HT, HF, HZ⟩
    case round =>
      clear HT HF HZ z0 z1 zz
      obtain ⟨k, hk, rfl, rfl, HT, HF, HZ⟩ := hrel
      obtain ⟨z0, z1, zz⟩ := cells2 HZ.out
      have zl := HZ.out.lt
      by_cases hlt : k < sn
      · have hk0 : (0 : Int) ≤ (k : Int) := by omega
        have hk1 : (k : Int) < (sn : Int) := by omega
        have hku : k < us.length := by rw [← HN.out]; exact hlt
        have HKU := Lib.hid hku
        obtain ⟨g, ua, m, uc, ha, -, hu, ⟨hm1, hm2⟩, -⟩ := HT.out.at_ hku
        subst ha
        have HU := Lib.hid hu
        unfold maxLen at hm2
        have mm0 : (m : Int) ≤ 9223372036854775807 := by omega
        clear hu hku
        go_wp2_with fail
        go_loopg [28] m (fun g' j wi => ∃ q : Nat, q ≤ m ∧ g' = m - q ∧ j = .int .i64 (q : Int) ∧ Hid (ShT wi (w7.heap.size + 1) (.slice (some ⟨g, 0, none⟩) sn cap8) us) ∧ Hid (FrS (w7.heap.size + 1) w8.heap.size w16 wi) ∧ Hid (Blk wi w8.heap.size 58 [.slice (some ⟨g, 0, none⟩) sn cap8, .slice b8 nc8 cc8]))
        case atStart => exact ⟨0, Nat.zero_le _, rfl, rfl, HT, HF, HZ⟩
        case round =>
          clear HT HF HZ z0 z1 zz zl
          obtain ⟨q, hq, rfl, rfl, HT, HF, HZ⟩ := hrel
          obtain ⟨z0, z1, zz⟩ := cells2 HZ.out
          have zl := HZ.out.lt
          obtain ⟨g1, ua1, m1, uc1, ha1, hc1, hu1, -, hst⟩ := HT.out.at_ HKU.out
          cases ha1
          rw [HU.out] at hu1
          cases hu1
          have HST := Lib.hid hst
          clear hst
          by_cases hql : q < m
          · have hq0 : (0 : Int) ≤ (q : Int) := by omega
            have hq1 : (q : Int) < (m : Int) := by omega
            obtain ⟨gu, hgu, ⟨⟨y, hy⟩, hfz, hBg⟩, hset, hset2⟩ := HST.out q hql
            subst hgu
            have hgt := LT.out.row HKU.out HU.out
            have HS1 := Lib.hid (hset (.string ⟨#[119, 114, 105, 116, 116, 101, 110, 32, 111, 118, 101, 114]⟩))
            clear hset hset2 HST
            go_wp2_with fail
            go_roundg (m - (q + 1))
            case measure => omega
            case rel =>
              exact ⟨q + 1, by omega, rfl, by go_num, HS1, HF.out.set_ hBg hgt, HZ.out.far (by omega) _⟩
          · obtain rfl : q = m := by omega
            have hlq : ¬ (q : Int) < (q : Int) := by omega
            clear HST
            go_wp2_with fail
            go_roundg (sn - (k + 1))
            case measure => omega
            case rel => exact ⟨k + 1, by omega, rfl, by go_num, HT, HF, HZ⟩
      · obtain rfl : k = sn := by omega
        have hlt' : ¬ (k : Int) < (k : Int) := by omega
        have hb := HF.out.1
        obtain ⟨⟨q1, q2, q3⟩, q4, q5⟩ := BD.out
        replace HB : Hid (Below w.heap.size w wr) := Lib.hid (HB.out.trans (hb.mono (by omega)))
        replace H3 : Hid (Below w3.heap.size w3 wr) := Lib.hid (H3.out.trans (hb.mono (by omega)))
        replace HA := Lib.hid (HA.out.below hb (by omega))
        replace HO := Lib.hid (HO.out.below hb (by omega))
        clear hb q1 q2 q3 q4 q5 HT HF
        obtain ⟨a0, a1, az⟩ := cells2 HA.out
        obtain ⟨o0, o1, oz⟩ := cells2 HO.out
        go_wp2_with fail
        refine Calls.mono (rsame s (SO3.out.below H3.out) (SS0.out.below HB.out)) ?_
        rintro e w17 ⟨rfl, hb⟩
        replace HB : Hid (Below w.heap.size w _) := below_step (by repeat (first | (with_reducible exact HB.out) | (with_reducible exact Below.refl _ _) | (with_reducible apply Below.drew) | (with_reducible apply below_alloc) | ((with_reducible refine Below.alloc ?_ ?_ _); rotate_left; focus (first | (simp; done) | (simp; omega) | omega)) | ((with_reducible refine Below.setCell ?_ ?_ _); rotate_left; focus (first | (simp; done) | (simp; omega) | omega)))) hb
        go_wp2_with fail
        go_ret
        exact ⟨rfl, HB.out⟩
end Go.Proofs.Ytblgmjbajnkcdab.MdlTurns
