/-
  The walk of StreamTurns: whether topics may be, a message more, and a command on a topic are the document's; they stay, what is answered is new memory. No condition.
-/
import Derived.Test.YtblgmjbajnkcdaaStrDo
import Derived.Test.YtblgmjbajnkcdaaRefStrDo
import Derived.Test.YtblgmjbajnkcdaaStrPut
import Derived.Test.YtblgmjbajnkcdaaRefStrPut
import Derived.Test.YtblgmjbajnkcdaaRefStrNew
import Derived.Test.YtblgmjbajnkcdaaStrSame
import Derived.Test.YtblgmjbajnkcdaaStrSpoil
import Derived.Test.YtblgmjbajnkcdaaStrTy
import Derived.Test.YtblgmjbajnkcdaaGreat21
import Derived.Test.YtblgmjbajnkcdaaRefStrGet
import Derived.Test.YtblgmjbajnkcdaaCmd
import Derived.Deep.RegionHeld3
import Derived.Deep.DeepCutAuto
namespace Go.Proofs.Ytblgmjbajnkcdaa.StrTurns
open Go.RowKit

theorem Blk.eq {w w' : World} {g : Nat} {t : TypeId} {cs : List Value} (h : Blk w g t cs) (e : w'.heap[g]? = w.heap[g]?) : Blk w' g t cs := e.trans h
theorem rsame (u : Str) {v v' : Value} {w : World} (h : StrR w v u) (h' : StrR w v' u) : Calls Try.prog 16 #[v, v'] w fun e w' => e = .returned (.bool true) ∧ Below w.heap.size w w' :=
  refStrSame_any h h' (by simp)
theorem rsame_q {s s' : Str} {q : Bool} {v v' : Value} {w : World} (h : StrR w v s) (h' : StrR w v' s') (hq : q = true ↔ s = s') : Calls Try.prog 16 #[v, v'] w fun e w' => e = .returned (.bool q) ∧ Below w.heap.size w w' :=
  refStrSame_any h h' hq
theorem psame (u : Str) {v v' : Value} {w : World} (h : StrR w v u) (h' : StrR w v' u) : Calls Try.prog 26 #[v, v'] w fun e w' => e = .returned (.bool true) ∧ Below w.heap.size w w' :=
  strSame_any h h' (by simp)
theorem psame_q {s s' : Str} {q : Bool} {v v' : Value} {w : World} (h : StrR w v s) (h' : StrR w v' s') (hq : q = true ↔ s = s') : Calls Try.prog 26 #[v, v'] w fun e w' => e = .returned (.bool q) ∧ Below w.heap.size w w' :=
  strSame_any h h' hq

theorem refStrCheck_any {v : Value} {s : Str} {w : World} (h : StrR w v s) (c : Int) (hc : c = if mayS s then 0 else 8) : Calls Try.prog 25 #[v] w fun e w' => e = .returned (.int .i64 c) ∧ Below w.heap.size w w' := by
  have S := Lib.hid h
  obtain ⟨a, cap, b, nc, cc, rfl, -, -⟩ := h.shape
  clear h
  by_cases hm : mayS s
  · rw [if_pos hm] at hc
    subst hc
    have HZ := Lib.hid (show true = decide (mayS s) by simp [hm])
    clear hm
    go_enter Try.func25, Try.ntmps25
    go_wp2_with fail
    refine Calls.mono (refStrMay_any ?_ HZ.out) ?_
    · exact S.out.below (by repeat (first | (with_reducible exact Below.refl _ _) | (with_reducible exact Below.refl _ _) | (with_reducible apply Below.drew) | (with_reducible apply below_alloc) | ((with_reducible refine Below.alloc ?_ ?_ _); rotate_left; focus (first | (simp; done) | (simp; omega) | omega)) | ((with_reducible refine Below.setCell ?_ ?_ _); rotate_left; focus (first | (simp; done) | (simp; omega) | omega))))
    rintro e w1 ⟨rfl, hb⟩
    have HB : Hid (Below w.heap.size w _) := below_step (by repeat (first | (with_reducible exact Below.refl _ _) | (with_reducible exact Below.refl _ _) | (with_reducible apply Below.drew) | (with_reducible apply below_alloc) | ((with_reducible refine Below.alloc ?_ ?_ _); rotate_left; focus (first | (simp; done) | (simp; omega) | omega)) | ((with_reducible refine Below.setCell ?_ ?_ _); rotate_left; focus (first | (simp; done) | (simp; omega) | omega)))) hb
    clear hb
    go_wp2_with fail
    go_ret
    exact ⟨rfl, HB.out⟩
  · rw [if_neg hm] at hc
    subst hc
    have HZ := Lib.hid (show false = decide (mayS s) by simp [hm])
    clear hm
    go_enter Try.func25, Try.ntmps25
    go_wp2_with fail
    refine Calls.mono (refStrMay_any ?_ HZ.out) ?_
    · exact S.out.below (by repeat (first | (with_reducible exact Below.refl _ _) | (with_reducible exact Below.refl _ _) | (with_reducible apply Below.drew) | (with_reducible apply below_alloc) | ((with_reducible refine Below.alloc ?_ ?_ _); rotate_left; focus (first | (simp; done) | (simp; omega) | omega)) | ((with_reducible refine Below.setCell ?_ ?_ _); rotate_left; focus (first | (simp; done) | (simp; omega) | omega))))
    rintro e w1 ⟨rfl, hb⟩
    have HB : Hid (Below w.heap.size w _) := below_step (by repeat (first | (with_reducible exact Below.refl _ _) | (with_reducible exact Below.refl _ _) | (with_reducible apply Below.drew) | (with_reducible apply below_alloc) | ((with_reducible refine Below.alloc ?_ ?_ _); rotate_left; focus (first | (simp; done) | (simp; omega) | omega)) | ((with_reducible refine Below.setCell ?_ ?_ _); rotate_left; focus (first | (simp; done) | (simp; omega) | omega)))) hb
    clear hb
    go_wp2_with fail
    go_ret
    exact ⟨rfl, HB.out⟩

set_option maxHeartbeats 16000000 in
set_option maxRecDepth 100000 in
theorem strTurns {v v' : Value} {s so : Str} {w : World} (m : Msg) (c : Cmd) (h : StrR w v s) (F : FitS s) (h' : StrR w v' so) (F' : FitS so) : Calls Try.prog 5 #[v, v', msgVal m, cmdVal c] w (LawEnd w) := by
  have SS := Lib.hid h
  have SS0 := Lib.hid h
  have SQ := Lib.hid h'
  have HKT := Lib.hid (fit_keys F)
  have HSZ := Lib.hid (fit_sizes F)
  have HRW := Lib.hid (fit_rows F)
  have HSZ2 := Lib.hid (fit_sizes F')
  have HRW2 := Lib.hid (fit_rows F')
  obtain ⟨a, cap, b, nc, cc, rfl, _, _⟩ := h.shape
  obtain ⟨a', cap', b', nc', cc', rfl, _, _⟩ := h'.shape
  clear F F' h h'
  obtain ⟨mid, ga, gn, gc, mt, mk, mb⟩ := m
  obtain ⟨kind, ⟨cid, cga, cgn, cgc, cmt, cmk, cmb⟩, id, time, ma, mn, mc, ct, cw, cn⟩ := c
  simp only [msgVal, cmdVal]
  obtain ⟨u, n, g, hu⟩ : ∃ u n g, putS s mid mt mk mb = (u, n, g) := ⟨_, _, _, rfl⟩
  obtain ⟨d, j, hd⟩ : ∃ d j, doS s kind ct cw cn = (d, j) := ⟨_, _, rfl⟩
  have PUT := Lib.hid hu
  have DO := Lib.hid hd
  obtain ⟨c8, hc8⟩ : ∃ c8 : Int, c8 = if mayS s then 0 else 8 := ⟨_, rfl⟩
  have CHK := Lib.hid hc8
  obtain ⟨qs, hqs⟩ : ∃ qs : Bool, qs = true ↔ s = so := by
    by_cases h : s = so
    · exact ⟨true, by simp [h]⟩
    · exact ⟨false, by simp [h]⟩
  have QSS := Lib.hid hqs
  clear hu hd hc8 hqs
  go_enter Try.func5, Try.ntmps5
  go_wp2_with fail
  refine Calls.mono (strGreat_any ?_ HSZ.out HRW.out) ?_
  · exact SS.out.below (by repeat (first | (with_reducible exact Below.refl _ _) | (with_reducible exact Below.refl _ _) | (with_reducible apply Below.drew) | (with_reducible apply below_alloc) | ((with_reducible refine Below.alloc ?_ ?_ _); rotate_left; focus (first | (simp; done) | (simp; omega) | omega)) | ((with_reducible refine Below.setCell ?_ ?_ _); rotate_left; focus (first | (simp; done) | (simp; omega) | omega))))
  rintro e w1 ⟨⟨gr, rfl, hgr⟩, hb⟩
  have HB : Hid (Below w.heap.size w _) := below_step (by repeat (first | (with_reducible exact Below.refl _ _) | (with_reducible exact Below.refl _ _) | (with_reducible apply Below.drew) | (with_reducible apply below_alloc) | ((with_reducible refine Below.alloc ?_ ?_ _); rotate_left; focus (first | (simp; done) | (simp; omega) | omega)) | ((with_reducible refine Below.setCell ?_ ?_ _); rotate_left; focus (first | (simp; done) | (simp; omega) | omega)))) hb
  have A : Blk _ (w.heap.size) _ _ := Blk.step (by repeat (first | ((with_reducible apply Blk.new); focus (first | rfl | (simp; done) | (simp; omega))) | (with_reducible apply Blk.drew) | (with_reducible apply Blk.alloc) | (with_reducible apply Blk.set_) | ((with_reducible apply Blk.far); rotate_left; focus (first | (simp; done) | (simp; omega) | omega)))) hb
  obtain ⟨a0, a1, az⟩ := cells2 A
  have al := Blk.lt A
  have HA := Lib.hid A
  clear A
  have Q : Blk _ (w.heap.size + 1) _ _ := Blk.step (by repeat (first | ((with_reducible apply Blk.new); focus (first | rfl | (simp; done) | (simp; omega))) | (with_reducible apply Blk.drew) | (with_reducible apply Blk.alloc) | (with_reducible apply Blk.set_) | ((with_reducible apply Blk.far); rotate_left; focus (first | (simp; done) | (simp; omega) | omega)))) hb
  obtain ⟨q0, q1, qz⟩ := cells2 Q
  have ql := Blk.lt Q
  have HQ := Lib.hid Q
  clear Q
  have M : Blk _ (w.heap.size + 2) _ _ := Blk.step (by repeat (first | ((with_reducible apply Blk.new); focus (first | rfl | (simp; done) | (simp; omega))) | (with_reducible apply Blk.drew) | (with_reducible apply Blk.alloc) | (with_reducible apply Blk.set_) | ((with_reducible apply Blk.far); rotate_left; focus (first | (simp; done) | (simp; omega) | omega)))) hb
  obtain ⟨m0, m1, m2, m3, m4, mz⟩ := cells5 M
  have ml := Blk.lt M
  have HM := Lib.hid M
  clear M
  have HC : Hid (Blk w1 (w.heap.size + 3) 52 [.int .u8 kind, .int .i64 cid, .slice cga cgn cgc, .int .i64 cmt, .string cmk, .string cmb, .int .i64 id, .int .i64 time, .slice ma mn mc, .int .i64 ct, .int .i64 cw, .int .i64 cn]) := Lib.hid (Blk.step (by repeat (first | (with_reducible exact Blk.new rfl) | ((with_reducible apply Blk.new); focus (first | rfl | (simp; done) | (simp; omega))) | (with_reducible apply Blk.drew) | (with_reducible apply Blk.alloc) | (with_reducible apply Blk.set_) | ((with_reducible apply Blk.far); rotate_left; focus (first | (simp; done) | (simp; omega) | omega)))) hb)
  replace SS : Hid (StrR _ _ _) := strR_step SS.out (by repeat (first | (with_reducible exact Below.refl _ _) | (with_reducible exact Below.refl _ _) | (with_reducible apply Below.drew) | (with_reducible apply below_alloc) | ((with_reducible refine Below.alloc ?_ ?_ _); rotate_left; focus (first | (simp; done) | (simp; omega) | omega)) | ((with_reducible refine Below.setCell ?_ ?_ _); rotate_left; focus (first | (simp; done) | (simp; omega) | omega)))) hb
  replace SQ : Hid (StrR _ _ _) := strR_step SQ.out (by repeat (first | (with_reducible exact Below.refl _ _) | (with_reducible exact Below.refl _ _) | (with_reducible apply Below.drew) | (with_reducible apply below_alloc) | ((with_reducible refine Below.alloc ?_ ?_ _); rotate_left; focus (first | (simp; done) | (simp; omega) | omega)) | ((with_reducible refine Below.setCell ?_ ?_ _); rotate_left; focus (first | (simp; done) | (simp; omega) | omega)))) hb
  have HLT := Lib.hid hgr
  clear hb hgr
  cases gr
  rotate_left
  · go_wp2_with fail
    go_ret
    exact ⟨rfl, HB.out⟩
  have HF := Lib.hid (few_of_great (HLT.out (by first | rfl | trivial)))
  clear HLT
  go_wp2_with fail
  refine Calls.mono (strGreat_any ?_ HSZ2.out HRW2.out) ?_
  · exact SQ.out.below (by repeat (first | (with_reducible exact Below.refl _ _) | (with_reducible exact Below.refl _ _) | (with_reducible apply Below.drew) | (with_reducible apply below_alloc) | ((with_reducible refine Below.alloc ?_ ?_ _); rotate_left; focus (first | (simp; done) | (simp; omega) | omega)) | ((with_reducible refine Below.setCell ?_ ?_ _); rotate_left; focus (first | (simp; done) | (simp; omega) | omega))))
  rintro e w2 ⟨⟨gr, rfl, -⟩, hb⟩
  replace HB : Hid (Below w.heap.size w _) := below_step (by repeat (first | (with_reducible exact HB.out) | (with_reducible exact Below.refl _ _) | (with_reducible apply Below.drew) | (with_reducible apply below_alloc) | ((with_reducible refine Below.alloc ?_ ?_ _); rotate_left; focus (first | (simp; done) | (simp; omega) | omega)) | ((with_reducible refine Below.setCell ?_ ?_ _); rotate_left; focus (first | (simp; done) | (simp; omega) | omega)))) hb
  clear a0 a1 az al
  replace HA : Hid (Blk _ (w.heap.size) _ _) := Blk.step (by repeat (first | (with_reducible exact HA.out) | ((with_reducible apply Blk.new); focus (first | rfl | (simp; done) | (simp; omega))) | (with_reducible apply Blk.drew) | (with_reducible apply Blk.alloc) | (with_reducible apply Blk.set_) | ((with_reducible apply Blk.far); rotate_left; focus (first | (simp; done) | (simp; omega) | omega)))) hb
  obtain ⟨a0, a1, az⟩ := cells2 HA.out
  have al := Blk.lt HA.out
  clear q0 q1 qz ql
  replace HQ : Hid (Blk _ (w.heap.size + 1) _ _) := Blk.step (by repeat (first | (with_reducible exact HQ.out) | ((with_reducible apply Blk.new); focus (first | rfl | (simp; done) | (simp; omega))) | (with_reducible apply Blk.drew) | (with_reducible apply Blk.alloc) | (with_reducible apply Blk.set_) | ((with_reducible apply Blk.far); rotate_left; focus (first | (simp; done) | (simp; omega) | omega)))) hb
  obtain ⟨q0, q1, qz⟩ := cells2 HQ.out
  have ql := Blk.lt HQ.out
  clear m0 m1 m2 m3 m4 mz ml
  replace HM : Hid (Blk _ (w.heap.size + 2) _ _) := Blk.step (by repeat (first | (with_reducible exact HM.out) | ((with_reducible apply Blk.new); focus (first | rfl | (simp; done) | (simp; omega))) | (with_reducible apply Blk.drew) | (with_reducible apply Blk.alloc) | (with_reducible apply Blk.set_) | ((with_reducible apply Blk.far); rotate_left; focus (first | (simp; done) | (simp; omega) | omega)))) hb
  obtain ⟨m0, m1, m2, m3, m4, mz⟩ := cells5 HM.out
  have ml := Blk.lt HM.out
  replace SS : Hid (StrR _ _ _) := strR_step SS.out (by repeat (first | (with_reducible exact Below.refl _ _) | (with_reducible exact Below.refl _ _) | (with_reducible apply Below.drew) | (with_reducible apply below_alloc) | ((with_reducible refine Below.alloc ?_ ?_ _); rotate_left; focus (first | (simp; done) | (simp; omega) | omega)) | ((with_reducible refine Below.setCell ?_ ?_ _); rotate_left; focus (first | (simp; done) | (simp; omega) | omega)))) hb
  replace SQ : Hid (StrR _ _ _) := strR_step SQ.out (by repeat (first | (with_reducible exact Below.refl _ _) | (with_reducible exact Below.refl _ _) | (with_reducible apply Below.drew) | (with_reducible apply below_alloc) | ((with_reducible refine Below.alloc ?_ ?_ _); rotate_left; focus (first | (simp; done) | (simp; omega) | omega)) | ((with_reducible refine Below.setCell ?_ ?_ _); rotate_left; focus (first | (simp; done) | (simp; omega) | omega)))) hb
  have HC2 : Hid (Blk w2 (w.heap.size + 3) 52 [.int .u8 kind, .int .i64 cid, .slice cga cgn cgc, .int .i64 cmt, .string cmk, .string cmb, .int .i64 id, .int .i64 time, .slice ma mn mc, .int .i64 ct, .int .i64 cw, .int .i64 cn]) := Lib.hid (Blk.step (by repeat (first | (with_reducible exact HC.out) | ((with_reducible apply Blk.new); focus (first | rfl | (simp; done) | (simp; omega))) | (with_reducible apply Blk.drew) | (with_reducible apply Blk.alloc) | (with_reducible apply Blk.set_) | ((with_reducible apply Blk.far); rotate_left; focus (first | (simp; done) | (simp; omega) | omega)))) hb)
  clear HC
  have HC := HC2
  clear HC2
  clear hb
  cases gr
  rotate_left
  · go_wp2_with fail
    go_ret
    exact ⟨rfl, HB.out⟩
  by_cases hkl : (5000 : Int) < (mk.size : Int)
  · go_wp2_with fail
    go_ret
    exact ⟨rfl, HB.out⟩
  by_cases hbl : (5000 : Int) < (mb.size : Int)
  · go_wp2_with fail
    go_ret
    exact ⟨rfl, HB.out⟩
  go_wp2_with fail
  refine Calls.mono (refStrTwin_any ?_ HF.out) ?_
  · exact SS.out.below (by repeat (first | (with_reducible exact Below.refl _ _) | (with_reducible exact Below.refl _ _) | (with_reducible apply Below.drew) | (with_reducible apply below_alloc) | ((with_reducible refine Below.alloc ?_ ?_ _); rotate_left; focus (first | (simp; done) | (simp; omega) | omega)) | ((with_reducible refine Below.setCell ?_ ?_ _); rotate_left; focus (first | (simp; done) | (simp; omega) | omega))))
  rintro e w3 ⟨ta, tc, rfl, os, hb⟩
  obtain ⟨a3, cap3, b3, nc3, cc3, ev, -, -⟩ := os.reads.shape
  cases ev
  replace HB : Hid (Below w.heap.size w _) := below_step (by repeat (first | (with_reducible exact HB.out) | (with_reducible exact Below.refl _ _) | (with_reducible apply Below.drew) | (with_reducible apply below_alloc) | ((with_reducible refine Below.alloc ?_ ?_ _); rotate_left; focus (first | (simp; done) | (simp; omega) | omega)) | ((with_reducible refine Below.setCell ?_ ?_ _); rotate_left; focus (first | (simp; done) | (simp; omega) | omega)))) hb
  clear a0 a1 az al
  replace HA : Hid (Blk _ (w.heap.size) _ _) := Blk.step (by repeat (first | (with_reducible exact HA.out) | ((with_reducible apply Blk.new); focus (first | rfl | (simp; done) | (simp; omega))) | (with_reducible apply Blk.drew) | (with_reducible apply Blk.alloc) | (with_reducible apply Blk.set_) | ((with_reducible apply Blk.far); rotate_left; focus (first | (simp; done) | (simp; omega) | omega)))) hb
  obtain ⟨a0, a1, az⟩ := cells2 HA.out
  have al := Blk.lt HA.out
  clear q0 q1 qz ql
  replace HQ : Hid (Blk _ (w.heap.size + 1) _ _) := Blk.step (by repeat (first | (with_reducible exact HQ.out) | ((with_reducible apply Blk.new); focus (first | rfl | (simp; done) | (simp; omega))) | (with_reducible apply Blk.drew) | (with_reducible apply Blk.alloc) | (with_reducible apply Blk.set_) | ((with_reducible apply Blk.far); rotate_left; focus (first | (simp; done) | (simp; omega) | omega)))) hb
  obtain ⟨q0, q1, qz⟩ := cells2 HQ.out
  have ql := Blk.lt HQ.out
  clear m0 m1 m2 m3 m4 mz ml
  replace HM : Hid (Blk _ (w.heap.size + 2) _ _) := Blk.step (by repeat (first | (with_reducible exact HM.out) | ((with_reducible apply Blk.new); focus (first | rfl | (simp; done) | (simp; omega))) | (with_reducible apply Blk.drew) | (with_reducible apply Blk.alloc) | (with_reducible apply Blk.set_) | ((with_reducible apply Blk.far); rotate_left; focus (first | (simp; done) | (simp; omega) | omega)))) hb
  obtain ⟨m0, m1, m2, m3, m4, mz⟩ := cells5 HM.out
  have ml := Blk.lt HM.out
  replace SS : Hid (StrR _ _ _) := strR_step SS.out (by repeat (first | (with_reducible exact Below.refl _ _) | (with_reducible exact Below.refl _ _) | (with_reducible apply Below.drew) | (with_reducible apply below_alloc) | ((with_reducible refine Below.alloc ?_ ?_ _); rotate_left; focus (first | (simp; done) | (simp; omega) | omega)) | ((with_reducible refine Below.setCell ?_ ?_ _); rotate_left; focus (first | (simp; done) | (simp; omega) | omega)))) hb
  replace SQ : Hid (StrR _ _ _) := strR_step SQ.out (by repeat (first | (with_reducible exact Below.refl _ _) | (with_reducible exact Below.refl _ _) | (with_reducible apply Below.drew) | (with_reducible apply below_alloc) | ((with_reducible refine Below.alloc ?_ ?_ _); rotate_left; focus (first | (simp; done) | (simp; omega) | omega)) | ((with_reducible refine Below.setCell ?_ ?_ _); rotate_left; focus (first | (simp; done) | (simp; omega) | omega)))) hb
  have HC3 : Hid (Blk w3 (w.heap.size + 3) 52 [.int .u8 kind, .int .i64 cid, .slice cga cgn cgc, .int .i64 cmt, .string cmk, .string cmb, .int .i64 id, .int .i64 time, .slice ma mn mc, .int .i64 ct, .int .i64 cw, .int .i64 cn]) := Lib.hid (Blk.step (by repeat (first | (with_reducible exact HC.out) | ((with_reducible apply Blk.new); focus (first | rfl | (simp; done) | (simp; omega))) | (with_reducible apply Blk.drew) | (with_reducible apply Blk.alloc) | (with_reducible apply Blk.set_) | ((with_reducible apply Blk.far); rotate_left; focus (first | (simp; done) | (simp; omega) | omega)))) hb)
  clear HC
  have HC := HC3
  clear HC3
  have SO : Hid (StrR w3 _ s) := Lib.hid os.reads
  have SO3 := SO
  have s3 : w.heap.size + 2 < w3.heap.size := ml
  have cl := HC.out.lt
  obtain ⟨⟨⟨d0, d1, d2, d3⟩, ⟨d4, d5, d6, d7⟩, d8, d9, d10, d11⟩, dz⟩ := cells12 HC.out
  clear hb os
  go_wp2_with fail
  refine Calls.mono (strPut_any mid mt mk mb ?_ HKT.out PUT.out) ?_
  · exact SO.out.below (by repeat (first | (with_reducible exact Below.refl _ _) | (with_reducible exact Below.refl _ _) | (with_reducible apply Below.drew) | (with_reducible apply below_alloc) | ((with_reducible refine Below.alloc ?_ ?_ _); rotate_left; focus (first | (simp; done) | (simp; omega) | omega)) | ((with_reducible refine Below.setCell ?_ ?_ _); rotate_left; focus (first | (simp; done) | (simp; omega) | omega))))
  rintro e w4 ⟨ta, tc, rfl, os, hb⟩
  obtain ⟨a4, cap4, b4, nc4, cc4, ev, -, -⟩ := os.reads.shape
  cases ev
  clear d0 d1 d2 d3 d4 d5 d6 d7 d8 d9 d10 d11 dz cl
  replace HB : Hid (Below w.heap.size w _) := below_step (by repeat (first | (with_reducible exact HB.out) | (with_reducible exact Below.refl _ _) | (with_reducible apply Below.drew) | (with_reducible apply below_alloc) | ((with_reducible refine Below.alloc ?_ ?_ _); rotate_left; focus (first | (simp; done) | (simp; omega) | omega)) | ((with_reducible refine Below.setCell ?_ ?_ _); rotate_left; focus (first | (simp; done) | (simp; omega) | omega)))) hb
  clear a0 a1 az al
  replace HA : Hid (Blk _ (w.heap.size) _ _) := Blk.step (by repeat (first | (with_reducible exact HA.out) | ((with_reducible apply Blk.new); focus (first | rfl | (simp; done) | (simp; omega))) | (with_reducible apply Blk.drew) | (with_reducible apply Blk.alloc) | (with_reducible apply Blk.set_) | ((with_reducible apply Blk.far); rotate_left; focus (first | (simp; done) | (simp; omega) | omega)))) hb
  obtain ⟨a0, a1, az⟩ := cells2 HA.out
  have al := Blk.lt HA.out
  clear q0 q1 qz ql
  replace HQ : Hid (Blk _ (w.heap.size + 1) _ _) := Blk.step (by repeat (first | (with_reducible exact HQ.out) | ((with_reducible apply Blk.new); focus (first | rfl | (simp; done) | (simp; omega))) | (with_reducible apply Blk.drew) | (with_reducible apply Blk.alloc) | (with_reducible apply Blk.set_) | ((with_reducible apply Blk.far); rotate_left; focus (first | (simp; done) | (simp; omega) | omega)))) hb
  obtain ⟨q0, q1, qz⟩ := cells2 HQ.out
  have ql := Blk.lt HQ.out
  clear m0 m1 m2 m3 m4 mz ml
  replace HM : Hid (Blk _ (w.heap.size + 2) _ _) := Blk.step (by repeat (first | (with_reducible exact HM.out) | ((with_reducible apply Blk.new); focus (first | rfl | (simp; done) | (simp; omega))) | (with_reducible apply Blk.drew) | (with_reducible apply Blk.alloc) | (with_reducible apply Blk.set_) | ((with_reducible apply Blk.far); rotate_left; focus (first | (simp; done) | (simp; omega) | omega)))) hb
  obtain ⟨m0, m1, m2, m3, m4, mz⟩ := cells5 HM.out
  have ml := Blk.lt HM.out
  replace SS : Hid (StrR _ _ _) := strR_step SS.out (by repeat (first | (with_reducible exact Below.refl _ _) | (with_reducible exact Below.refl _ _) | (with_reducible apply Below.drew) | (with_reducible apply below_alloc) | ((with_reducible refine Below.alloc ?_ ?_ _); rotate_left; focus (first | (simp; done) | (simp; omega) | omega)) | ((with_reducible refine Below.setCell ?_ ?_ _); rotate_left; focus (first | (simp; done) | (simp; omega) | omega)))) hb
  replace SQ : Hid (StrR _ _ _) := strR_step SQ.out (by repeat (first | (with_reducible exact Below.refl _ _) | (with_reducible exact Below.refl _ _) | (with_reducible apply Below.drew) | (with_reducible apply below_alloc) | ((with_reducible refine Below.alloc ?_ ?_ _); rotate_left; focus (first | (simp; done) | (simp; omega) | omega)) | ((with_reducible refine Below.setCell ?_ ?_ _); rotate_left; focus (first | (simp; done) | (simp; omega) | omega)))) hb
  replace SO : Hid (StrR _ _ _) := strR_step SO.out (by repeat (first | (with_reducible exact Below.refl _ _) | (with_reducible exact Below.refl _ _) | (with_reducible apply Below.drew) | (with_reducible apply below_alloc) | ((with_reducible refine Below.alloc ?_ ?_ _); rotate_left; focus (first | (simp; done) | (simp; omega) | omega)) | ((with_reducible refine Below.setCell ?_ ?_ _); rotate_left; focus (first | (simp; done) | (simp; omega) | omega)))) hb
  have HC4 : Hid (Blk w4 (w.heap.size + 3) 52 [.int .u8 kind, .int .i64 cid, .slice cga cgn cgc, .int .i64 cmt, .string cmk, .string cmb, .int .i64 id, .int .i64 time, .slice ma mn mc, .int .i64 ct, .int .i64 cw, .int .i64 cn]) := Lib.hid (Blk.step (by repeat (first | (with_reducible exact HC.out) | ((with_reducible apply Blk.new); focus (first | rfl | (simp; done) | (simp; omega))) | (with_reducible apply Blk.drew) | (with_reducible apply Blk.alloc) | (with_reducible apply Blk.set_) | ((with_reducible apply Blk.far); rotate_left; focus (first | (simp; done) | (simp; omega) | omega)))) hb)
  clear HC
  have HC := HC4
  clear HC4
  have O : Blk _ (w3.heap.size) _ _ := Blk.step (by repeat (first | ((with_reducible apply Blk.new); focus (first | rfl | (simp; done) | (simp; omega))) | (with_reducible apply Blk.drew) | (with_reducible apply Blk.alloc) | (with_reducible apply Blk.set_) | ((with_reducible apply Blk.far); rotate_left; focus (first | (simp; done) | (simp; omega) | omega)))) hb
  obtain ⟨o0, o1, oz⟩ := cells2 O
  have ol := Blk.lt O
  have HO := Lib.hid O
  clear O
  have H3 : Hid (Below w3.heap.size w3 _) := below_step (by repeat (first | (with_reducible exact Below.refl _ _) | (with_reducible exact Below.refl _ _) | (with_reducible apply Below.drew) | (with_reducible apply below_alloc) | ((with_reducible refine Below.alloc ?_ ?_ _); rotate_left; focus (first | (simp; done) | (simp; omega) | omega)) | ((with_reducible refine Below.setCell ?_ ?_ _); rotate_left; focus (first | (simp; done) | (simp; omega) | omega)))) hb
  have SA : Hid (StrR w4 _ u) := Lib.hid os.reads
  have KA : Hid (ShS w4 (w3.heap.size + 1) w4.heap.size _) := Lib.hid (by have h := os.sh; simpa using h)
  have s4 : w3.heap.size < w4.heap.size := ol
  clear hb os
  go_wp2_with fail
  refine Calls.mono (refStrPut_any mid mt mk mb ?_ PUT.out) ?_
  · exact SS.out.below (by repeat (first | (with_reducible exact Below.refl _ _) | (with_reducible exact Below.refl _ _) | (with_reducible apply Below.drew) | (with_reducible apply below_alloc) | ((with_reducible refine Below.alloc ?_ ?_ _); rotate_left; focus (first | (simp; done) | (simp; omega) | omega)) | ((with_reducible refine Below.setCell ?_ ?_ _); rotate_left; focus (first | (simp; done) | (simp; omega) | omega))))
  rintro e w5 ⟨ta, tc, rfl, os, hb⟩
  obtain ⟨a5, cap5, b5, nc5, cc5, ev, -, -⟩ := os.reads.shape
  cases ev
  replace HB : Hid (Below w.heap.size w _) := below_step (by repeat (first | (with_reducible exact HB.out) | (with_reducible exact Below.refl _ _) | (with_reducible apply Below.drew) | (with_reducible apply below_alloc) | ((with_reducible refine Below.alloc ?_ ?_ _); rotate_left; focus (first | (simp; done) | (simp; omega) | omega)) | ((with_reducible refine Below.setCell ?_ ?_ _); rotate_left; focus (first | (simp; done) | (simp; omega) | omega)))) hb
  clear a0 a1 az al
  replace HA : Hid (Blk _ (w.heap.size) _ _) := Blk.step (by repeat (first | (with_reducible exact HA.out) | ((with_reducible apply Blk.new); focus (first | rfl | (simp; done) | (simp; omega))) | (with_reducible apply Blk.drew) | (with_reducible apply Blk.alloc) | (with_reducible apply Blk.set_) | ((with_reducible apply Blk.far); rotate_left; focus (first | (simp; done) | (simp; omega) | omega)))) hb
  obtain ⟨a0, a1, az⟩ := cells2 HA.out
  have al := Blk.lt HA.out
  clear q0 q1 qz ql
  replace HQ : Hid (Blk _ (w.heap.size + 1) _ _) := Blk.step (by repeat (first | (with_reducible exact HQ.out) | ((with_reducible apply Blk.new); focus (first | rfl | (simp; done) | (simp; omega))) | (with_reducible apply Blk.drew) | (with_reducible apply Blk.alloc) | (with_reducible apply Blk.set_) | ((with_reducible apply Blk.far); rotate_left; focus (first | (simp; done) | (simp; omega) | omega)))) hb
  obtain ⟨q0, q1, qz⟩ := cells2 HQ.out
  have ql := Blk.lt HQ.out
  clear m0 m1 m2 m3 m4 mz ml
  replace HM : Hid (Blk _ (w.heap.size + 2) _ _) := Blk.step (by repeat (first | (with_reducible exact HM.out) | ((with_reducible apply Blk.new); focus (first | rfl | (simp; done) | (simp; omega))) | (with_reducible apply Blk.drew) | (with_reducible apply Blk.alloc) | (with_reducible apply Blk.set_) | ((with_reducible apply Blk.far); rotate_left; focus (first | (simp; done) | (simp; omega) | omega)))) hb
  obtain ⟨m0, m1, m2, m3, m4, mz⟩ := cells5 HM.out
  have ml := Blk.lt HM.out
  clear o0 o1 oz ol
  replace HO : Hid (Blk _ (w3.heap.size) _ _) := Blk.step (by repeat (first | (with_reducible exact HO.out) | ((with_reducible apply Blk.new); focus (first | rfl | (simp; done) | (simp; omega))) | (with_reducible apply Blk.drew) | (with_reducible apply Blk.alloc) | (with_reducible apply Blk.set_) | ((with_reducible apply Blk.far); rotate_left; focus (first | (simp; done) | (simp; omega) | omega)))) hb
  obtain ⟨o0, o1, oz⟩ := cells2 HO.out
  have ol := Blk.lt HO.out
  replace SS : Hid (StrR _ _ _) := strR_step SS.out (by repeat (first | (with_reducible exact Below.refl _ _) | (with_reducible exact Below.refl _ _) | (with_reducible apply Below.drew) | (with_reducible apply below_alloc) | ((with_reducible refine Below.alloc ?_ ?_ _); rotate_left; focus (first | (simp; done) | (simp; omega) | omega)) | ((with_reducible refine Below.setCell ?_ ?_ _); rotate_left; focus (first | (simp; done) | (simp; omega) | omega)))) hb
  replace SQ : Hid (StrR _ _ _) := strR_step SQ.out (by repeat (first | (with_reducible exact Below.refl _ _) | (with_reducible exact Below.refl _ _) | (with_reducible apply Below.drew) | (with_reducible apply below_alloc) | ((with_reducible refine Below.alloc ?_ ?_ _); rotate_left; focus (first | (simp; done) | (simp; omega) | omega)) | ((with_reducible refine Below.setCell ?_ ?_ _); rotate_left; focus (first | (simp; done) | (simp; omega) | omega)))) hb
  replace SO : Hid (StrR _ _ _) := strR_step SO.out (by repeat (first | (with_reducible exact Below.refl _ _) | (with_reducible exact Below.refl _ _) | (with_reducible apply Below.drew) | (with_reducible apply below_alloc) | ((with_reducible refine Below.alloc ?_ ?_ _); rotate_left; focus (first | (simp; done) | (simp; omega) | omega)) | ((with_reducible refine Below.setCell ?_ ?_ _); rotate_left; focus (first | (simp; done) | (simp; omega) | omega)))) hb
  replace SA : Hid (StrR _ _ _) := strR_step SA.out (by repeat (first | (with_reducible exact Below.refl _ _) | (with_reducible exact Below.refl _ _) | (with_reducible apply Below.drew) | (with_reducible apply below_alloc) | ((with_reducible refine Below.alloc ?_ ?_ _); rotate_left; focus (first | (simp; done) | (simp; omega) | omega)) | ((with_reducible refine Below.setCell ?_ ?_ _); rotate_left; focus (first | (simp; done) | (simp; omega) | omega)))) hb
  replace H3 : Hid (Below w3.heap.size w3 _) := below_step (by repeat (first | (with_reducible exact H3.out) | (with_reducible exact Below.refl _ _) | (with_reducible apply Below.drew) | (with_reducible apply below_alloc) | ((with_reducible refine Below.alloc ?_ ?_ _); rotate_left; focus (first | (simp; done) | (simp; omega) | omega)) | ((with_reducible refine Below.setCell ?_ ?_ _); rotate_left; focus (first | (simp; done) | (simp; omega) | omega)))) hb
  have HC5 : Hid (Blk w5 (w.heap.size + 3) 52 [.int .u8 kind, .int .i64 cid, .slice cga cgn cgc, .int .i64 cmt, .string cmk, .string cmb, .int .i64 id, .int .i64 time, .slice ma mn mc, .int .i64 ct, .int .i64 cw, .int .i64 cn]) := Lib.hid (Blk.step (by repeat (first | (with_reducible exact HC.out) | ((with_reducible apply Blk.new); focus (first | rfl | (simp; done) | (simp; omega))) | (with_reducible apply Blk.drew) | (with_reducible apply Blk.alloc) | (with_reducible apply Blk.set_) | ((with_reducible apply Blk.far); rotate_left; focus (first | (simp; done) | (simp; omega) | omega)))) hb)
  clear HC
  have HC := HC5
  clear HC5
  have U : Blk _ (w4.heap.size) _ _ := Blk.step (by repeat (first | ((with_reducible apply Blk.new); focus (first | rfl | (simp; done) | (simp; omega))) | (with_reducible apply Blk.drew) | (with_reducible apply Blk.alloc) | (with_reducible apply Blk.set_) | ((with_reducible apply Blk.far); rotate_left; focus (first | (simp; done) | (simp; omega) | omega)))) hb
  obtain ⟨u0, u1, uz⟩ := cells2 U
  have ul := Blk.lt U
  have HU := Lib.hid U
  clear U
  replace KA : Hid (ShS w5 (w3.heap.size + 1) w4.heap.size _) := Lib.hid (KA.out.step (Nat.le_refl _) ((below_alloc (Below.refl _ _)).trans (hb.mono (by simp))))
  have SB : Hid (StrR w5 _ u) := Lib.hid os.reads
  have s5 : w4.heap.size < w5.heap.size := ul
  have cl := HC.out.lt
  obtain ⟨⟨⟨d0, d1, d2, d3⟩, ⟨d4, d5, d6, d7⟩, d8, d9, d10, d11⟩, dz⟩ := cells12 HC.out
  clear hb os
  go_wp2_with fail
  refine Calls.mono (strDo_any ct cw cn ?_ HKT.out DO.out) ?_
  · exact SO.out.below (by repeat (first | (with_reducible exact Below.refl _ _) | (with_reducible exact Below.refl _ _) | (with_reducible apply Below.drew) | (with_reducible apply below_alloc) | ((with_reducible refine Below.alloc ?_ ?_ _); rotate_left; focus (first | (simp; done) | (simp; omega) | omega)) | ((with_reducible refine Below.setCell ?_ ?_ _); rotate_left; focus (first | (simp; done) | (simp; omega) | omega))))
  rintro e w6 ⟨ta, tc, rfl, os, hb⟩
  obtain ⟨a6, cap6, b6, nc6, cc6, ev, -, -⟩ := os.reads.shape
  cases ev
  clear d0 d1 d2 d3 d4 d5 d6 d7 d8 d9 d10 d11 dz cl
  replace HB : Hid (Below w.heap.size w _) := below_step (by repeat (first | (with_reducible exact HB.out) | (with_reducible exact Below.refl _ _) | (with_reducible apply Below.drew) | (with_reducible apply below_alloc) | ((with_reducible refine Below.alloc ?_ ?_ _); rotate_left; focus (first | (simp; done) | (simp; omega) | omega)) | ((with_reducible refine Below.setCell ?_ ?_ _); rotate_left; focus (first | (simp; done) | (simp; omega) | omega)))) hb
  clear a0 a1 az al
  replace HA : Hid (Blk _ (w.heap.size) _ _) := Blk.step (by repeat (first | (with_reducible exact HA.out) | ((with_reducible apply Blk.new); focus (first | rfl | (simp; done) | (simp; omega))) | (with_reducible apply Blk.drew) | (with_reducible apply Blk.alloc) | (with_reducible apply Blk.set_) | ((with_reducible apply Blk.far); rotate_left; focus (first | (simp; done) | (simp; omega) | omega)))) hb
  obtain ⟨a0, a1, az⟩ := cells2 HA.out
  have al := Blk.lt HA.out
  clear q0 q1 qz ql
  replace HQ : Hid (Blk _ (w.heap.size + 1) _ _) := Blk.step (by repeat (first | (with_reducible exact HQ.out) | ((with_reducible apply Blk.new); focus (first | rfl | (simp; done) | (simp; omega))) | (with_reducible apply Blk.drew) | (with_reducible apply Blk.alloc) | (with_reducible apply Blk.set_) | ((with_reducible apply Blk.far); rotate_left; focus (first | (simp; done) | (simp; omega) | omega)))) hb
  obtain ⟨q0, q1, qz⟩ := cells2 HQ.out
  have ql := Blk.lt HQ.out
  clear m0 m1 m2 m3 m4 mz ml
  replace HM : Hid (Blk _ (w.heap.size + 2) _ _) := Blk.step (by repeat (first | (with_reducible exact HM.out) | ((with_reducible apply Blk.new); focus (first | rfl | (simp; done) | (simp; omega))) | (with_reducible apply Blk.drew) | (with_reducible apply Blk.alloc) | (with_reducible apply Blk.set_) | ((with_reducible apply Blk.far); rotate_left; focus (first | (simp; done) | (simp; omega) | omega)))) hb
  obtain ⟨m0, m1, m2, m3, m4, mz⟩ := cells5 HM.out
  have ml := Blk.lt HM.out
  clear o0 o1 oz ol
  replace HO : Hid (Blk _ (w3.heap.size) _ _) := Blk.step (by repeat (first | (with_reducible exact HO.out) | ((with_reducible apply Blk.new); focus (first | rfl | (simp; done) | (simp; omega))) | (with_reducible apply Blk.drew) | (with_reducible apply Blk.alloc) | (with_reducible apply Blk.set_) | ((with_reducible apply Blk.far); rotate_left; focus (first | (simp; done) | (simp; omega) | omega)))) hb
  obtain ⟨o0, o1, oz⟩ := cells2 HO.out
  have ol := Blk.lt HO.out
  clear u0 u1 uz ul
  replace HU : Hid (Blk _ (w4.heap.size) _ _) := Blk.step (by repeat (first | (with_reducible exact HU.out) | ((with_reducible apply Blk.new); focus (first | rfl | (simp; done) | (simp; omega))) | (with_reducible apply Blk.drew) | (with_reducible apply Blk.alloc) | (with_reducible apply Blk.set_) | ((with_reducible apply Blk.far); rotate_left; focus (first | (simp; done) | (simp; omega) | omega)))) hb
  obtain ⟨u0, u1, uz⟩ := cells2 HU.out
  have ul := Blk.lt HU.out
  replace SS : Hid (StrR _ _ _) := strR_step SS.out (by repeat (first | (with_reducible exact Below.refl _ _) | (with_reducible exact Below.refl _ _) | (with_reducible apply Below.drew) | (with_reducible apply below_alloc) | ((with_reducible refine Below.alloc ?_ ?_ _); rotate_left; focus (first | (simp; done) | (simp; omega) | omega)) | ((with_reducible refine Below.setCell ?_ ?_ _); rotate_left; focus (first | (simp; done) | (simp; omega) | omega)))) hb
  replace SQ : Hid (StrR _ _ _) := strR_step SQ.out (by repeat (first | (with_reducible exact Below.refl _ _) | (with_reducible exact Below.refl _ _) | (with_reducible apply Below.drew) | (with_reducible apply below_alloc) | ((with_reducible refine Below.alloc ?_ ?_ _); rotate_left; focus (first | (simp; done) | (simp; omega) | omega)) | ((with_reducible refine Below.setCell ?_ ?_ _); rotate_left; focus (first | (simp; done) | (simp; omega) | omega)))) hb
  replace SO : Hid (StrR _ _ _) := strR_step SO.out (by repeat (first | (with_reducible exact Below.refl _ _) | (with_reducible exact Below.refl _ _) | (with_reducible apply Below.drew) | (with_reducible apply below_alloc) | ((with_reducible refine Below.alloc ?_ ?_ _); rotate_left; focus (first | (simp; done) | (simp; omega) | omega)) | ((with_reducible refine Below.setCell ?_ ?_ _); rotate_left; focus (first | (simp; done) | (simp; omega) | omega)))) hb
  replace SA : Hid (StrR _ _ _) := strR_step SA.out (by repeat (first | (with_reducible exact Below.refl _ _) | (with_reducible exact Below.refl _ _) | (with_reducible apply Below.drew) | (with_reducible apply below_alloc) | ((with_reducible refine Below.alloc ?_ ?_ _); rotate_left; focus (first | (simp; done) | (simp; omega) | omega)) | ((with_reducible refine Below.setCell ?_ ?_ _); rotate_left; focus (first | (simp; done) | (simp; omega) | omega)))) hb
  replace SB : Hid (StrR _ _ _) := strR_step SB.out (by repeat (first | (with_reducible exact Below.refl _ _) | (with_reducible exact Below.refl _ _) | (with_reducible apply Below.drew) | (with_reducible apply below_alloc) | ((with_reducible refine Below.alloc ?_ ?_ _); rotate_left; focus (first | (simp; done) | (simp; omega) | omega)) | ((with_reducible refine Below.setCell ?_ ?_ _); rotate_left; focus (first | (simp; done) | (simp; omega) | omega)))) hb
  replace H3 : Hid (Below w3.heap.size w3 _) := below_step (by repeat (first | (with_reducible exact H3.out) | (with_reducible exact Below.refl _ _) | (with_reducible apply Below.drew) | (with_reducible apply below_alloc) | ((with_reducible refine Below.alloc ?_ ?_ _); rotate_left; focus (first | (simp; done) | (simp; omega) | omega)) | ((with_reducible refine Below.setCell ?_ ?_ _); rotate_left; focus (first | (simp; done) | (simp; omega) | omega)))) hb
  have HC6 : Hid (Blk w6 (w.heap.size + 3) 52 [.int .u8 kind, .int .i64 cid, .slice cga cgn cgc, .int .i64 cmt, .string cmk, .string cmb, .int .i64 id, .int .i64 time, .slice ma mn mc, .int .i64 ct, .int .i64 cw, .int .i64 cn]) := Lib.hid (Blk.step (by repeat (first | (with_reducible exact HC.out) | ((with_reducible apply Blk.new); focus (first | rfl | (simp; done) | (simp; omega))) | (with_reducible apply Blk.drew) | (with_reducible apply Blk.alloc) | (with_reducible apply Blk.set_) | ((with_reducible apply Blk.far); rotate_left; focus (first | (simp; done) | (simp; omega) | omega)))) hb)
  clear HC
  have HC := HC6
  clear HC6
  have V : Blk _ (w5.heap.size) _ _ := Blk.step (by repeat (first | ((with_reducible apply Blk.new); focus (first | rfl | (simp; done) | (simp; omega))) | (with_reducible apply Blk.drew) | (with_reducible apply Blk.alloc) | (with_reducible apply Blk.set_) | ((with_reducible apply Blk.far); rotate_left; focus (first | (simp; done) | (simp; omega) | omega)))) hb
  obtain ⟨v0, v1, vz⟩ := cells2 V
  have vl := Blk.lt V
  have HV := Lib.hid V
  clear V
  replace KA : Hid (ShS w6 (w3.heap.size + 1) w4.heap.size _) := Lib.hid (KA.out.step (by omega) ((below_alloc (Below.refl _ _)).trans (hb.mono (by simp))))
  have SX : Hid (StrR w6 _ d) := Lib.hid os.reads
  have KX : Hid (ShS w6 (w5.heap.size + 1) w6.heap.size _) := Lib.hid (by have h := os.sh; simpa using h)
  have s6 : w5.heap.size < w6.heap.size := vl
  have cl := HC.out.lt
  obtain ⟨⟨⟨d0, d1, d2, d3⟩, ⟨d4, d5, d6, d7⟩, d8, d9, d10, d11⟩, dz⟩ := cells12 HC.out
  clear hb os
  go_wp2_with fail
  refine Calls.mono (refStrDo_any ct cw cn ?_ DO.out) ?_
  · exact SS.out.below (by repeat (first | (with_reducible exact Below.refl _ _) | (with_reducible exact Below.refl _ _) | (with_reducible apply Below.drew) | (with_reducible apply below_alloc) | ((with_reducible refine Below.alloc ?_ ?_ _); rotate_left; focus (first | (simp; done) | (simp; omega) | omega)) | ((with_reducible refine Below.setCell ?_ ?_ _); rotate_left; focus (first | (simp; done) | (simp; omega) | omega))))
  rintro e w7 ⟨ta, tc, rfl, os, hb⟩
  obtain ⟨a7, cap7, b7, nc7, cc7, ev, -, -⟩ := os.reads.shape
  cases ev
  clear d0 d1 d2 d3 d4 d5 d6 d7 d8 d9 d10 d11 dz cl m0 m1 m2 m3 m4 mz ml HM HC
  replace HB : Hid (Below w.heap.size w _) := below_step (by repeat (first | (with_reducible exact HB.out) | (with_reducible exact Below.refl _ _) | (with_reducible apply Below.drew) | (with_reducible apply below_alloc) | ((with_reducible refine Below.alloc ?_ ?_ _); rotate_left; focus (first | (simp; done) | (simp; omega) | omega)) | ((with_reducible refine Below.setCell ?_ ?_ _); rotate_left; focus (first | (simp; done) | (simp; omega) | omega)))) hb
  clear a0 a1 az al
  replace HA : Hid (Blk _ (w.heap.size) _ _) := Blk.step (by repeat (first | (with_reducible exact HA.out) | ((with_reducible apply Blk.new); focus (first | rfl | (simp; done) | (simp; omega))) | (with_reducible apply Blk.drew) | (with_reducible apply Blk.alloc) | (with_reducible apply Blk.set_) | ((with_reducible apply Blk.far); rotate_left; focus (first | (simp; done) | (simp; omega) | omega)))) hb
  obtain ⟨a0, a1, az⟩ := cells2 HA.out
  have al := Blk.lt HA.out
  clear q0 q1 qz ql
  replace HQ : Hid (Blk _ (w.heap.size + 1) _ _) := Blk.step (by repeat (first | (with_reducible exact HQ.out) | ((with_reducible apply Blk.new); focus (first | rfl | (simp; done) | (simp; omega))) | (with_reducible apply Blk.drew) | (with_reducible apply Blk.alloc) | (with_reducible apply Blk.set_) | ((with_reducible apply Blk.far); rotate_left; focus (first | (simp; done) | (simp; omega) | omega)))) hb
  obtain ⟨q0, q1, qz⟩ := cells2 HQ.out
  have ql := Blk.lt HQ.out
  clear o0 o1 oz ol
  replace HO : Hid (Blk _ (w3.heap.size) _ _) := Blk.step (by repeat (first | (with_reducible exact HO.out) | ((with_reducible apply Blk.new); focus (first | rfl | (simp; done) | (simp; omega))) | (with_reducible apply Blk.drew) | (with_reducible apply Blk.alloc) | (with_reducible apply Blk.set_) | ((with_reducible apply Blk.far); rotate_left; focus (first | (simp; done) | (simp; omega) | omega)))) hb
  obtain ⟨o0, o1, oz⟩ := cells2 HO.out
  have ol := Blk.lt HO.out
  clear u0 u1 uz ul
  replace HU : Hid (Blk _ (w4.heap.size) _ _) := Blk.step (by repeat (first | (with_reducible exact HU.out) | ((with_reducible apply Blk.new); focus (first | rfl | (simp; done) | (simp; omega))) | (with_reducible apply Blk.drew) | (with_reducible apply Blk.alloc) | (with_reducible apply Blk.set_) | ((with_reducible apply Blk.far); rotate_left; focus (first | (simp; done) | (simp; omega) | omega)))) hb
  obtain ⟨u0, u1, uz⟩ := cells2 HU.out
  have ul := Blk.lt HU.out
  clear v0 v1 vz vl
  replace HV : Hid (Blk _ (w5.heap.size) _ _) := Blk.step (by repeat (first | (with_reducible exact HV.out) | ((with_reducible apply Blk.new); focus (first | rfl | (simp; done) | (simp; omega))) | (with_reducible apply Blk.drew) | (with_reducible apply Blk.alloc) | (with_reducible apply Blk.set_) | ((with_reducible apply Blk.far); rotate_left; focus (first | (simp; done) | (simp; omega) | omega)))) hb
  obtain ⟨v0, v1, vz⟩ := cells2 HV.out
  have vl := Blk.lt HV.out
  replace SS : Hid (StrR _ _ _) := strR_step SS.out (by repeat (first | (with_reducible exact Below.refl _ _) | (with_reducible exact Below.refl _ _) | (with_reducible apply Below.drew) | (with_reducible apply below_alloc) | ((with_reducible refine Below.alloc ?_ ?_ _); rotate_left; focus (first | (simp; done) | (simp; omega) | omega)) | ((with_reducible refine Below.setCell ?_ ?_ _); rotate_left; focus (first | (simp; done) | (simp; omega) | omega)))) hb
  replace SQ : Hid (StrR _ _ _) := strR_step SQ.out (by repeat (first | (with_reducible exact Below.refl _ _) | (with_reducible exact Below.refl _ _) | (with_reducible apply Below.drew) | (with_reducible apply below_alloc) | ((with_reducible refine Below.alloc ?_ ?_ _); rotate_left; focus (first | (simp; done) | (simp; omega) | omega)) | ((with_reducible refine Below.setCell ?_ ?_ _); rotate_left; focus (first | (simp; done) | (simp; omega) | omega)))) hb
  replace SO : Hid (StrR _ _ _) := strR_step SO.out (by repeat (first | (with_reducible exact Below.refl _ _) | (with_reducible exact Below.refl _ _) | (with_reducible apply Below.drew) | (with_reducible apply below_alloc) | ((with_reducible refine Below.alloc ?_ ?_ _); rotate_left; focus (first | (simp; done) | (simp; omega) | omega)) | ((with_reducible refine Below.setCell ?_ ?_ _); rotate_left; focus (first | (simp; done) | (simp; omega) | omega)))) hb
  replace SA : Hid (StrR _ _ _) := strR_step SA.out (by repeat (first | (with_reducible exact Below.refl _ _) | (with_reducible exact Below.refl _ _) | (with_reducible apply Below.drew) | (with_reducible apply below_alloc) | ((with_reducible refine Below.alloc ?_ ?_ _); rotate_left; focus (first | (simp; done) | (simp; omega) | omega)) | ((with_reducible refine Below.setCell ?_ ?_ _); rotate_left; focus (first | (simp; done) | (simp; omega) | omega)))) hb
  replace SB : Hid (StrR _ _ _) := strR_step SB.out (by repeat (first | (with_reducible exact Below.refl _ _) | (with_reducible exact Below.refl _ _) | (with_reducible apply Below.drew) | (with_reducible apply below_alloc) | ((with_reducible refine Below.alloc ?_ ?_ _); rotate_left; focus (first | (simp; done) | (simp; omega) | omega)) | ((with_reducible refine Below.setCell ?_ ?_ _); rotate_left; focus (first | (simp; done) | (simp; omega) | omega)))) hb
  replace SX : Hid (StrR _ _ _) := strR_step SX.out (by repeat (first | (with_reducible exact Below.refl _ _) | (with_reducible exact Below.refl _ _) | (with_reducible apply Below.drew) | (with_reducible apply below_alloc) | ((with_reducible refine Below.alloc ?_ ?_ _); rotate_left; focus (first | (simp; done) | (simp; omega) | omega)) | ((with_reducible refine Below.setCell ?_ ?_ _); rotate_left; focus (first | (simp; done) | (simp; omega) | omega)))) hb
  replace H3 : Hid (Below w3.heap.size w3 _) := below_step (by repeat (first | (with_reducible exact H3.out) | (with_reducible exact Below.refl _ _) | (with_reducible apply Below.drew) | (with_reducible apply below_alloc) | ((with_reducible refine Below.alloc ?_ ?_ _); rotate_left; focus (first | (simp; done) | (simp; omega) | omega)) | ((with_reducible refine Below.setCell ?_ ?_ _); rotate_left; focus (first | (simp; done) | (simp; omega) | omega)))) hb
  have X : Blk _ (w6.heap.size) _ _ := Blk.step (by repeat (first | ((with_reducible apply Blk.new); focus (first | rfl | (simp; done) | (simp; omega))) | (with_reducible apply Blk.drew) | (with_reducible apply Blk.alloc) | (with_reducible apply Blk.set_) | ((with_reducible apply Blk.far); rotate_left; focus (first | (simp; done) | (simp; omega) | omega)))) hb
  obtain ⟨x0, x1, xz⟩ := cells2 X
  have xl := Blk.lt X
  have HX := Lib.hid X
  clear X
  replace KA : Hid (ShS w7 (w3.heap.size + 1) w4.heap.size _) := Lib.hid (KA.out.step (by omega) ((below_alloc (Below.refl _ _)).trans (hb.mono (by simp))))
  replace KX : Hid (ShS w7 (w5.heap.size + 1) w6.heap.size _) := Lib.hid (KX.out.step (by omega) ((below_alloc (Below.refl _ _)).trans (hb.mono (by simp))))
  have SY : Hid (StrR w7 _ d) := Lib.hid os.reads
  have s7 : w6.heap.size < w7.heap.size := xl
  clear hb os
  go_wp2_with fail
  refine Calls.mono (strTwin_any ?_ HF.out) ?_
  · exact SO.out.below (by repeat (first | (with_reducible exact Below.refl _ _) | (with_reducible exact Below.refl _ _) | (with_reducible apply Below.drew) | (with_reducible apply below_alloc) | ((with_reducible refine Below.alloc ?_ ?_ _); rotate_left; focus (first | (simp; done) | (simp; omega) | omega)) | ((with_reducible refine Below.setCell ?_ ?_ _); rotate_left; focus (first | (simp; done) | (simp; omega) | omega))))
  rintro e w8 ⟨ta, tc, rfl, os, hb⟩
  obtain ⟨a8, cap8, b8, nc8, cc8, ev, -, -⟩ := os.reads.shape
  cases ev
  replace HB : Hid (Below w.heap.size w _) := below_step (by repeat (first | (with_reducible exact HB.out) | (with_reducible exact Below.refl _ _) | (with_reducible apply Below.drew) | (with_reducible apply below_alloc) | ((with_reducible refine Below.alloc ?_ ?_ _); rotate_left; focus (first | (simp; done) | (simp; omega) | omega)) | ((with_reducible refine Below.setCell ?_ ?_ _); rotate_left; focus (first | (simp; done) | (simp; omega) | omega)))) hb
  clear a0 a1 az al
  replace HA : Hid (Blk _ (w.heap.size) _ _) := Blk.step (by repeat (first | (with_reducible exact HA.out) | ((with_reducible apply Blk.new); focus (first | rfl | (simp; done) | (simp; omega))) | (with_reducible apply Blk.drew) | (with_reducible apply Blk.alloc) | (with_reducible apply Blk.set_) | ((with_reducible apply Blk.far); rotate_left; focus (first | (simp; done) | (simp; omega) | omega)))) hb
  obtain ⟨a0, a1, az⟩ := cells2 HA.out
  have al := Blk.lt HA.out
  clear q0 q1 qz ql
  replace HQ : Hid (Blk _ (w.heap.size + 1) _ _) := Blk.step (by repeat (first | (with_reducible exact HQ.out) | ((with_reducible apply Blk.new); focus (first | rfl | (simp; done) | (simp; omega))) | (with_reducible apply Blk.drew) | (with_reducible apply Blk.alloc) | (with_reducible apply Blk.set_) | ((with_reducible apply Blk.far); rotate_left; focus (first | (simp; done) | (simp; omega) | omega)))) hb
  obtain ⟨q0, q1, qz⟩ := cells2 HQ.out
  have ql := Blk.lt HQ.out
  clear o0 o1 oz ol
  replace HO : Hid (Blk _ (w3.heap.size) _ _) := Blk.step (by repeat (first | (with_reducible exact HO.out) | ((with_reducible apply Blk.new); focus (first | rfl | (simp; done) | (simp; omega))) | (with_reducible apply Blk.drew) | (with_reducible apply Blk.alloc) | (with_reducible apply Blk.set_) | ((with_reducible apply Blk.far); rotate_left; focus (first | (simp; done) | (simp; omega) | omega)))) hb
  obtain ⟨o0, o1, oz⟩ := cells2 HO.out
  have ol := Blk.lt HO.out
  clear u0 u1 uz ul
  replace HU : Hid (Blk _ (w4.heap.size) _ _) := Blk.step (by repeat (first | (with_reducible exact HU.out) | ((with_reducible apply Blk.new); focus (first | rfl | (simp; done) | (simp; omega))) | (with_reducible apply Blk.drew) | (with_reducible apply Blk.alloc) | (with_reducible apply Blk.set_) | ((with_reducible apply Blk.far); rotate_left; focus (first | (simp; done) | (simp; omega) | omega)))) hb
  obtain ⟨u0, u1, uz⟩ := cells2 HU.out
  have ul := Blk.lt HU.out
  clear v0 v1 vz vl
  replace HV : Hid (Blk _ (w5.heap.size) _ _) := Blk.step (by repeat (first | (with_reducible exact HV.out) | ((with_reducible apply Blk.new); focus (first | rfl | (simp; done) | (simp; omega))) | (with_reducible apply Blk.drew) | (with_reducible apply Blk.alloc) | (with_reducible apply Blk.set_) | ((with_reducible apply Blk.far); rotate_left; focus (first | (simp; done) | (simp; omega) | omega)))) hb
  obtain ⟨v0, v1, vz⟩ := cells2 HV.out
  have vl := Blk.lt HV.out
  clear x0 x1 xz xl
  replace HX : Hid (Blk _ (w6.heap.size) _ _) := Blk.step (by repeat (first | (with_reducible exact HX.out) | ((with_reducible apply Blk.new); focus (first | rfl | (simp; done) | (simp; omega))) | (with_reducible apply Blk.drew) | (with_reducible apply Blk.alloc) | (with_reducible apply Blk.set_) | ((with_reducible apply Blk.far); rotate_left; focus (first | (simp; done) | (simp; omega) | omega)))) hb
  obtain ⟨x0, x1, xz⟩ := cells2 HX.out
  have xl := Blk.lt HX.out
  replace SS : Hid (StrR _ _ _) := strR_step SS.out (by repeat (first | (with_reducible exact Below.refl _ _) | (with_reducible exact Below.refl _ _) | (with_reducible apply Below.drew) | (with_reducible apply below_alloc) | ((with_reducible refine Below.alloc ?_ ?_ _); rotate_left; focus (first | (simp; done) | (simp; omega) | omega)) | ((with_reducible refine Below.setCell ?_ ?_ _); rotate_left; focus (first | (simp; done) | (simp; omega) | omega)))) hb
  replace SQ : Hid (StrR _ _ _) := strR_step SQ.out (by repeat (first | (with_reducible exact Below.refl _ _) | (with_reducible exact Below.refl _ _) | (with_reducible apply Below.drew) | (with_reducible apply below_alloc) | ((with_reducible refine Below.alloc ?_ ?_ _); rotate_left; focus (first | (simp; done) | (simp; omega) | omega)) | ((with_reducible refine Below.setCell ?_ ?_ _); rotate_left; focus (first | (simp; done) | (simp; omega) | omega)))) hb
  replace SO : Hid (StrR _ _ _) := strR_step SO.out (by repeat (first | (with_reducible exact Below.refl _ _) | (with_reducible exact Below.refl _ _) | (with_reducible apply Below.drew) | (with_reducible apply below_alloc) | ((with_reducible refine Below.alloc ?_ ?_ _); rotate_left; focus (first | (simp; done) | (simp; omega) | omega)) | ((with_reducible refine Below.setCell ?_ ?_ _); rotate_left; focus (first | (simp; done) | (simp; omega) | omega)))) hb
  replace SA : Hid (StrR _ _ _) := strR_step SA.out (by repeat (first | (with_reducible exact Below.refl _ _) | (with_reducible exact Below.refl _ _) | (with_reducible apply Below.drew) | (with_reducible apply below_alloc) | ((with_reducible refine Below.alloc ?_ ?_ _); rotate_left; focus (first | (simp; done) | (simp; omega) | omega)) | ((with_reducible refine Below.setCell ?_ ?_ _); rotate_left; focus (first | (simp; done) | (simp; omega) | omega)))) hb
  replace SB : Hid (StrR _ _ _) := strR_step SB.out (by repeat (first | (with_reducible exact Below.refl _ _) | (with_reducible exact Below.refl _ _) | (with_reducible apply Below.drew) | (with_reducible apply below_alloc) | ((with_reducible refine Below.alloc ?_ ?_ _); rotate_left; focus (first | (simp; done) | (simp; omega) | omega)) | ((with_reducible refine Below.setCell ?_ ?_ _); rotate_left; focus (first | (simp; done) | (simp; omega) | omega)))) hb
  replace SX : Hid (StrR _ _ _) := strR_step SX.out (by repeat (first | (with_reducible exact Below.refl _ _) | (with_reducible exact Below.refl _ _) | (with_reducible apply Below.drew) | (with_reducible apply below_alloc) | ((with_reducible refine Below.alloc ?_ ?_ _); rotate_left; focus (first | (simp; done) | (simp; omega) | omega)) | ((with_reducible refine Below.setCell ?_ ?_ _); rotate_left; focus (first | (simp; done) | (simp; omega) | omega)))) hb
  replace SY : Hid (StrR _ _ _) := strR_step SY.out (by repeat (first | (with_reducible exact Below.refl _ _) | (with_reducible exact Below.refl _ _) | (with_reducible apply Below.drew) | (with_reducible apply below_alloc) | ((with_reducible refine Below.alloc ?_ ?_ _); rotate_left; focus (first | (simp; done) | (simp; omega) | omega)) | ((with_reducible refine Below.setCell ?_ ?_ _); rotate_left; focus (first | (simp; done) | (simp; omega) | omega)))) hb
  replace H3 : Hid (Below w3.heap.size w3 _) := below_step (by repeat (first | (with_reducible exact H3.out) | (with_reducible exact Below.refl _ _) | (with_reducible apply Below.drew) | (with_reducible apply below_alloc) | ((with_reducible refine Below.alloc ?_ ?_ _); rotate_left; focus (first | (simp; done) | (simp; omega) | omega)) | ((with_reducible refine Below.setCell ?_ ?_ _); rotate_left; focus (first | (simp; done) | (simp; omega) | omega)))) hb
  have Y : Blk _ (w7.heap.size) _ _ := Blk.step (by repeat (first | ((with_reducible apply Blk.new); focus (first | rfl | (simp; done) | (simp; omega))) | (with_reducible apply Blk.drew) | (with_reducible apply Blk.alloc) | (with_reducible apply Blk.set_) | ((with_reducible apply Blk.far); rotate_left; focus (first | (simp; done) | (simp; omega) | omega)))) hb
  obtain ⟨y0, y1, yz⟩ := cells2 Y
  have yl := Blk.lt Y
  have HY := Lib.hid Y
  clear Y
  replace KA : Hid (ShS w8 (w3.heap.size + 1) w4.heap.size _) := Lib.hid (KA.out.step (by omega) ((below_alloc (Below.refl _ _)).trans (hb.mono (by simp))))
  replace KX : Hid (ShS w8 (w5.heap.size + 1) w6.heap.size _) := Lib.hid (KX.out.step (by omega) ((below_alloc (Below.refl _ _)).trans (hb.mono (by simp))))
  have ST : Hid (StrR w8 _ s) := Lib.hid os.reads
  have KT : Hid (ShS w8 (w7.heap.size + 1) w8.heap.size _) := Lib.hid (by have h := os.sh; simpa using h)
  have s8 : w7.heap.size < w8.heap.size := yl
  clear hb os
  go_wp2_with fail
  refine wp_region_below (by kernel_rfl) (by kernel_rfl) ?_
  repeat
    with_reducible refine wpQuiet_step (fun K hK => ?_)
    first
      | refine quiet_not (by rfl) (hK _ ?_)
      | refine quiet_any (by rfl) ?_
        apply Exists.intro
        refine ⟨fun wq hq => ?_, hK _ ?_⟩
        · obtain ⟨qc, _⟩ := bcell hq.out
          go_simp
          first
            | done
            | (with_reducible rfl)
            | (first | (go_at_call 16; with_reducible exact call_in hq.out (rsame u (strR_step SA.out (by repeat (first | (with_reducible exact Below.refl _ _) | (with_reducible exact Below.refl _ _) | (with_reducible apply Below.drew) | (with_reducible apply below_alloc) | ((with_reducible refine Below.alloc ?_ ?_ _); rotate_left; focus (first | (simp; done) | (simp; omega) | omega)) | ((with_reducible refine Below.setCell ?_ ?_ _); rotate_left; focus (first | (simp; done) | (simp; omega) | omega)))) hq.out).out (strR_step SB.out (by repeat (first | (with_reducible exact Below.refl _ _) | (with_reducible exact Below.refl _ _) | (with_reducible apply Below.drew) | (with_reducible apply below_alloc) | ((with_reducible refine Below.alloc ?_ ?_ _); rotate_left; focus (first | (simp; done) | (simp; omega) | omega)) | ((with_reducible refine Below.setCell ?_ ?_ _); rotate_left; focus (first | (simp; done) | (simp; omega) | omega)))) hq.out).out)) | (go_at_call 16; with_reducible exact call_in hq.out (rsame d (strR_step SX.out (by repeat (first | (with_reducible exact Below.refl _ _) | (with_reducible exact Below.refl _ _) | (with_reducible apply Below.drew) | (with_reducible apply below_alloc) | ((with_reducible refine Below.alloc ?_ ?_ _); rotate_left; focus (first | (simp; done) | (simp; omega) | omega)) | ((with_reducible refine Below.setCell ?_ ?_ _); rotate_left; focus (first | (simp; done) | (simp; omega) | omega)))) hq.out).out (strR_step SY.out (by repeat (first | (with_reducible exact Below.refl _ _) | (with_reducible exact Below.refl _ _) | (with_reducible apply Below.drew) | (with_reducible apply below_alloc) | ((with_reducible refine Below.alloc ?_ ?_ _); rotate_left; focus (first | (simp; done) | (simp; omega) | omega)) | ((with_reducible refine Below.setCell ?_ ?_ _); rotate_left; focus (first | (simp; done) | (simp; omega) | omega)))) hq.out).out)) | (go_at_call 16; with_reducible exact call_in hq.out (rsame s (strR_step ST.out (by repeat (first | (with_reducible exact Below.refl _ _) | (with_reducible exact Below.refl _ _) | (with_reducible apply Below.drew) | (with_reducible apply below_alloc) | ((with_reducible refine Below.alloc ?_ ?_ _); rotate_left; focus (first | (simp; done) | (simp; omega) | omega)) | ((with_reducible refine Below.setCell ?_ ?_ _); rotate_left; focus (first | (simp; done) | (simp; omega) | omega)))) hq.out).out (strR_step SS.out (by repeat (first | (with_reducible exact Below.refl _ _) | (with_reducible exact Below.refl _ _) | (with_reducible apply Below.drew) | (with_reducible apply below_alloc) | ((with_reducible refine Below.alloc ?_ ?_ _); rotate_left; focus (first | (simp; done) | (simp; omega) | omega)) | ((with_reducible refine Below.setCell ?_ ?_ _); rotate_left; focus (first | (simp; done) | (simp; omega) | omega)))) hq.out).out)) | (go_at_call 21; exact call_in hq.out (strCheck_any (strR_step SO.out (by repeat (first | (with_reducible exact Below.refl _ _) | (with_reducible exact Below.refl _ _) | (with_reducible apply Below.drew) | (with_reducible apply below_alloc) | ((with_reducible refine Below.alloc ?_ ?_ _); rotate_left; focus (first | (simp; done) | (simp; omega) | omega)) | ((with_reducible refine Below.setCell ?_ ?_ _); rotate_left; focus (first | (simp; done) | (simp; omega) | omega)))) hq.out).out HKT.out c8 CHK.out)) | (go_at_call 25; exact call_in hq.out (refStrCheck_any (strR_step SS.out (by repeat (first | (with_reducible exact Below.refl _ _) | (with_reducible exact Below.refl _ _) | (with_reducible apply Below.drew) | (with_reducible apply below_alloc) | ((with_reducible refine Below.alloc ?_ ?_ _); rotate_left; focus (first | (simp; done) | (simp; omega) | omega)) | ((with_reducible refine Below.setCell ?_ ?_ _); rotate_left; focus (first | (simp; done) | (simp; omega) | omega)))) hq.out).out c8 CHK.out)))
    clear hK K
    simp only [Act.put, List.setIfInBounds_toArray, List.set_cons_zero, List.set_cons_succ]
  refine wpQuiet_nil ?_
  intro w9 hb
  replace HB : Hid (Below w.heap.size w _) := below_step (by repeat (first | (with_reducible exact HB.out) | (with_reducible exact Below.refl _ _) | (with_reducible apply Below.drew) | (with_reducible apply below_alloc) | ((with_reducible refine Below.alloc ?_ ?_ _); rotate_left; focus (first | (simp; done) | (simp; omega) | omega)) | ((with_reducible refine Below.setCell ?_ ?_ _); rotate_left; focus (first | (simp; done) | (simp; omega) | omega)))) hb
  clear a0 a1 az al
  replace HA : Hid (Blk _ (w.heap.size) _ _) := Blk.step (by repeat (first | (with_reducible exact HA.out) | ((with_reducible apply Blk.new); focus (first | rfl | (simp; done) | (simp; omega))) | (with_reducible apply Blk.drew) | (with_reducible apply Blk.alloc) | (with_reducible apply Blk.set_) | ((with_reducible apply Blk.far); rotate_left; focus (first | (simp; done) | (simp; omega) | omega)))) hb
  obtain ⟨a0, a1, az⟩ := cells2 HA.out
  have al := Blk.lt HA.out
  clear q0 q1 qz ql
  replace HQ : Hid (Blk _ (w.heap.size + 1) _ _) := Blk.step (by repeat (first | (with_reducible exact HQ.out) | ((with_reducible apply Blk.new); focus (first | rfl | (simp; done) | (simp; omega))) | (with_reducible apply Blk.drew) | (with_reducible apply Blk.alloc) | (with_reducible apply Blk.set_) | ((with_reducible apply Blk.far); rotate_left; focus (first | (simp; done) | (simp; omega) | omega)))) hb
  obtain ⟨q0, q1, qz⟩ := cells2 HQ.out
  have ql := Blk.lt HQ.out
  clear o0 o1 oz ol
  replace HO : Hid (Blk _ (w3.heap.size) _ _) := Blk.step (by repeat (first | (with_reducible exact HO.out) | ((with_reducible apply Blk.new); focus (first | rfl | (simp; done) | (simp; omega))) | (with_reducible apply Blk.drew) | (with_reducible apply Blk.alloc) | (with_reducible apply Blk.set_) | ((with_reducible apply Blk.far); rotate_left; focus (first | (simp; done) | (simp; omega) | omega)))) hb
  obtain ⟨o0, o1, oz⟩ := cells2 HO.out
  have ol := Blk.lt HO.out
  clear u0 u1 uz ul
  replace HU : Hid (Blk _ (w4.heap.size) _ _) := Blk.step (by repeat (first | (with_reducible exact HU.out) | ((with_reducible apply Blk.new); focus (first | rfl | (simp; done) | (simp; omega))) | (with_reducible apply Blk.drew) | (with_reducible apply Blk.alloc) | (with_reducible apply Blk.set_) | ((with_reducible apply Blk.far); rotate_left; focus (first | (simp; done) | (simp; omega) | omega)))) hb
  obtain ⟨u0, u1, uz⟩ := cells2 HU.out
  have ul := Blk.lt HU.out
  clear x0 x1 xz xl
  replace HX : Hid (Blk _ (w6.heap.size) _ _) := Blk.step (by repeat (first | (with_reducible exact HX.out) | ((with_reducible apply Blk.new); focus (first | rfl | (simp; done) | (simp; omega))) | (with_reducible apply Blk.drew) | (with_reducible apply Blk.alloc) | (with_reducible apply Blk.set_) | ((with_reducible apply Blk.far); rotate_left; focus (first | (simp; done) | (simp; omega) | omega)))) hb
  obtain ⟨x0, x1, xz⟩ := cells2 HX.out
  have xl := Blk.lt HX.out
  replace SS : Hid (StrR _ _ _) := strR_step SS.out (by repeat (first | (with_reducible exact Below.refl _ _) | (with_reducible exact Below.refl _ _) | (with_reducible apply Below.drew) | (with_reducible apply below_alloc) | ((with_reducible refine Below.alloc ?_ ?_ _); rotate_left; focus (first | (simp; done) | (simp; omega) | omega)) | ((with_reducible refine Below.setCell ?_ ?_ _); rotate_left; focus (first | (simp; done) | (simp; omega) | omega)))) hb
  replace SQ : Hid (StrR _ _ _) := strR_step SQ.out (by repeat (first | (with_reducible exact Below.refl _ _) | (with_reducible exact Below.refl _ _) | (with_reducible apply Below.drew) | (with_reducible apply below_alloc) | ((with_reducible refine Below.alloc ?_ ?_ _); rotate_left; focus (first | (simp; done) | (simp; omega) | omega)) | ((with_reducible refine Below.setCell ?_ ?_ _); rotate_left; focus (first | (simp; done) | (simp; omega) | omega)))) hb
  replace SO : Hid (StrR _ _ _) := strR_step SO.out (by repeat (first | (with_reducible exact Below.refl _ _) | (with_reducible exact Below.refl _ _) | (with_reducible apply Below.drew) | (with_reducible apply below_alloc) | ((with_reducible refine Below.alloc ?_ ?_ _); rotate_left; focus (first | (simp; done) | (simp; omega) | omega)) | ((with_reducible refine Below.setCell ?_ ?_ _); rotate_left; focus (first | (simp; done) | (simp; omega) | omega)))) hb
  replace H3 : Hid (Below w3.heap.size w3 _) := below_step (by repeat (first | (with_reducible exact H3.out) | (with_reducible exact Below.refl _ _) | (with_reducible apply Below.drew) | (with_reducible apply below_alloc) | ((with_reducible refine Below.alloc ?_ ?_ _); rotate_left; focus (first | (simp; done) | (simp; omega) | omega)) | ((with_reducible refine Below.setCell ?_ ?_ _); rotate_left; focus (first | (simp; done) | (simp; omega) | omega)))) hb
  have Z : Blk _ (w8.heap.size) _ _ := Blk.step (by repeat (first | ((with_reducible apply Blk.new); focus (first | rfl | (simp; done) | (simp; omega))) | (with_reducible apply Blk.drew) | (with_reducible apply Blk.alloc) | (with_reducible apply Blk.set_) | ((with_reducible apply Blk.far); rotate_left; focus (first | (simp; done) | (simp; omega) | omega)))) hb
  obtain ⟨z0, z1, zz⟩ := cells2 Z
  have zl := Blk.lt Z
  have HZ := Lib.hid Z
  clear Z
  replace KA : Hid (ShS w9 (w3.heap.size + 1) w4.heap.size _) := Lib.hid (KA.out.step (by omega) ((below_alloc (Below.refl _ _)).trans (hb.mono (by simp))))
  replace KX : Hid (ShS w9 (w5.heap.size + 1) w6.heap.size _) := Lib.hid (KX.out.step (by omega) ((below_alloc (Below.refl _ _)).trans (hb.mono (by simp))))
  replace KT : Hid (ShS w9 (w7.heap.size + 1) w8.heap.size _) := Lib.hid (KT.out.step (by omega) ((below_alloc (Below.refl _ _)).trans (hb.mono (by simp))))
  have s9 : w8.heap.size < w9.heap.size := zl
  clear hb SA SB SX SY ST
  go_upto_region 10 with fail
  go_cut [22] (fun c wx => c = .bool true ∧ Hid (Below w9.heap.size w9 wx))
  case first =>
    have KC : Hid (∀ W' : World, Below w9.heap.size w9 W' → (((W'.cell? ⟨w.heap.size, 0, none⟩ = some (.slice a s.tops.length cap) ∧ W'.cell? ⟨w.heap.size, 1, none⟩ = some (.slice b nc cc)) ∧ W'.cell? ⟨w.heap.size + 1, 0, none⟩ = some (.slice a' so.tops.length cap') ∧ W'.cell? ⟨w.heap.size + 1, 1, none⟩ = some (.slice b' nc' cc')) ∧ W'.cell? ⟨w3.heap.size, 0, none⟩ = some (.slice a3 s.tops.length cap3) ∧ W'.cell? ⟨w3.heap.size, 1, none⟩ = some (.slice b3 nc3 cc3))) := fun W' hb => by
      have c := fun (p : Addr) (hp : p.block < w9.heap.size) => hb.cell hp
      refine ⟨⟨⟨(c _ ?_).trans a0, (c _ ?_).trans a1⟩, (c _ ?_).trans q0, (c _ ?_).trans q1⟩, (c _ ?_).trans o0, (c _ ?_).trans o1⟩ <;> (simp only []; omega)
    have KT2 := KC.out w9 (Below.refl _ _)
    have HR : Hid (Below w9.heap.size w9 w9) := Lib.hid (Below.refl _ _)
    clear u0 u1 uz ul x0 x1 xz xl z0 z1 zz zl
    go_region_held3 (fun W' => (((W'.cell? ⟨w.heap.size, 0, none⟩ = some (.slice a s.tops.length cap) ∧ W'.cell? ⟨w.heap.size, 1, none⟩ = some (.slice b nc cc)) ∧ W'.cell? ⟨w.heap.size + 1, 0, none⟩ = some (.slice a' so.tops.length cap') ∧ W'.cell? ⟨w.heap.size + 1, 1, none⟩ = some (.slice b' nc' cc')) ∧ W'.cell? ⟨w3.heap.size, 0, none⟩ = some (.slice a3 s.tops.length cap3) ∧ W'.cell? ⟨w3.heap.size, 1, none⟩ = some (.slice b3 nc3 cc3)))
      (first | (with_reducible exact KT2) | (refine KC.out _ ?_; (repeat (first | (with_reducible exact HR.out) | (with_reducible exact Below.refl _ _) | (with_reducible apply Below.drew) | (with_reducible apply below_alloc) | ((with_reducible refine Below.alloc ?_ ?_ _); rotate_left; focus (first | (simp; done) | (simp; omega) | omega)) | ((with_reducible refine Below.setCell ?_ ?_ _); rotate_left; focus (first | (simp; done) | (simp; omega) | omega)))); done))
      (first | (go_at_call 26; refine Calls.mono (psame s (SO.out.below (by repeat (first | (with_reducible exact HR.out) | (with_reducible exact Below.refl _ _) | (with_reducible apply Below.drew) | (with_reducible apply below_alloc) | ((with_reducible refine Below.alloc ?_ ?_ _); rotate_left; focus (first | (simp; done) | (simp; omega) | omega)) | ((with_reducible refine Below.setCell ?_ ?_ _); rotate_left; focus (first | (simp; done) | (simp; omega) | omega))))) (SS.out.below (by repeat (first | (with_reducible exact HR.out) | (with_reducible exact Below.refl _ _) | (with_reducible apply Below.drew) | (with_reducible apply below_alloc) | ((with_reducible refine Below.alloc ?_ ?_ _); rotate_left; focus (first | (simp; done) | (simp; omega) | omega)) | ((with_reducible refine Below.setCell ?_ ?_ _); rotate_left; focus (first | (simp; done) | (simp; omega) | omega)))))) ?_; rintro e wk ⟨rfl, hb⟩; have HR : Hid (Below w9.heap.size w9 wk) := below_step (by repeat (first | (with_reducible exact HR.out) | (with_reducible exact Below.refl _ _) | (with_reducible apply Below.drew) | (with_reducible apply below_alloc) | ((with_reducible refine Below.alloc ?_ ?_ _); rotate_left; focus (first | (simp; done) | (simp; omega) | omega)) | ((with_reducible refine Below.setCell ?_ ?_ _); rotate_left; focus (first | (simp; done) | (simp; omega) | omega)))) hb; clear hb) | (go_at_call 26; refine Calls.mono (psame_q (SS.out.below (by repeat (first | (with_reducible exact HR.out) | (with_reducible exact Below.refl _ _) | (with_reducible apply Below.drew) | (with_reducible apply below_alloc) | ((with_reducible refine Below.alloc ?_ ?_ _); rotate_left; focus (first | (simp; done) | (simp; omega) | omega)) | ((with_reducible refine Below.setCell ?_ ?_ _); rotate_left; focus (first | (simp; done) | (simp; omega) | omega))))) (SQ.out.below (by repeat (first | (with_reducible exact HR.out) | (with_reducible exact Below.refl _ _) | (with_reducible apply Below.drew) | (with_reducible apply below_alloc) | ((with_reducible refine Below.alloc ?_ ?_ _); rotate_left; focus (first | (simp; done) | (simp; omega) | omega)) | ((with_reducible refine Below.setCell ?_ ?_ _); rotate_left; focus (first | (simp; done) | (simp; omega) | omega))))) QSS.out) ?_; rintro e wk ⟨rfl, hb⟩; have HR : Hid (Below w9.heap.size w9 wk) := below_step (by repeat (first | (with_reducible exact HR.out) | (with_reducible exact Below.refl _ _) | (with_reducible apply Below.drew) | (with_reducible apply below_alloc) | ((with_reducible refine Below.alloc ?_ ?_ _); rotate_left; focus (first | (simp; done) | (simp; omega) | omega)) | ((with_reducible refine Below.setCell ?_ ?_ _); rotate_left; focus (first | (simp; done) | (simp; omega) | omega)))) hb; clear hb) | (go_at_call 16; refine Calls.mono (rsame newS (N1.out.below (by repeat (first | (with_reducible exact Below.refl _ _) | (with_reducible exact Below.refl _ _) | (with_reducible apply Below.drew) | (with_reducible apply below_alloc) | ((with_reducible refine Below.alloc ?_ ?_ _); rotate_left; focus (first | (simp; done) | (simp; omega) | omega)) | ((with_reducible refine Below.setCell ?_ ?_ _); rotate_left; focus (first | (simp; done) | (simp; omega) | omega))))) (N2.out.below (by repeat (first | (with_reducible exact Below.refl _ _) | (with_reducible exact Below.refl _ _) | (with_reducible apply Below.drew) | (with_reducible apply below_alloc) | ((with_reducible refine Below.alloc ?_ ?_ _); rotate_left; focus (first | (simp; done) | (simp; omega) | omega)) | ((with_reducible refine Below.setCell ?_ ?_ _); rotate_left; focus (first | (simp; done) | (simp; omega) | omega)))))) ?_; rintro e wk ⟨rfl, hb⟩; have HR : Hid (Below w9.heap.size w9 wk) := below_step (by repeat (first | (with_reducible exact HR.out) | (with_reducible exact Below.refl _ _) | (with_reducible apply Below.drew) | (with_reducible apply below_alloc) | ((with_reducible refine Below.alloc ?_ ?_ _); rotate_left; focus (first | (simp; done) | (simp; omega) | omega)) | ((with_reducible refine Below.setCell ?_ ?_ _); rotate_left; focus (first | (simp; done) | (simp; omega) | omega)))) hb; clear hb) | (go_at_call 16; refine Calls.mono (rsame_q (SS.out.below (by repeat (first | (with_reducible exact HR.out) | (with_reducible exact Below.refl _ _) | (with_reducible apply Below.drew) | (with_reducible apply below_alloc) | ((with_reducible refine Below.alloc ?_ ?_ _); rotate_left; focus (first | (simp; done) | (simp; omega) | omega)) | ((with_reducible refine Below.setCell ?_ ?_ _); rotate_left; focus (first | (simp; done) | (simp; omega) | omega))))) (SQ.out.below (by repeat (first | (with_reducible exact HR.out) | (with_reducible exact Below.refl _ _) | (with_reducible apply Below.drew) | (with_reducible apply below_alloc) | ((with_reducible refine Below.alloc ?_ ?_ _); rotate_left; focus (first | (simp; done) | (simp; omega) | omega)) | ((with_reducible refine Below.setCell ?_ ?_ _); rotate_left; focus (first | (simp; done) | (simp; omega) | omega))))) QSS.out) ?_; rintro e wk ⟨rfl, hb⟩; have HR : Hid (Below w9.heap.size w9 wk) := below_step (by repeat (first | (with_reducible exact HR.out) | (with_reducible exact Below.refl _ _) | (with_reducible apply Below.drew) | (with_reducible apply below_alloc) | ((with_reducible refine Below.alloc ?_ ?_ _); rotate_left; focus (first | (simp; done) | (simp; omega) | omega)) | ((with_reducible refine Below.setCell ?_ ?_ _); rotate_left; focus (first | (simp; done) | (simp; omega) | omega)))) hb; clear hb) | (go_at_call 18; refine Calls.mono (strNew_any _) ?_; rintro e wk ⟨ta, tc, rfl, os, hb⟩; have N1 : Hid (StrR wk _ newS) := Lib.hid os.reads; have HR : Hid (Below w9.heap.size w9 wk) := below_step (by repeat (first | (with_reducible exact HR.out) | (with_reducible exact Below.refl _ _) | (with_reducible apply Below.drew) | (with_reducible apply below_alloc) | ((with_reducible refine Below.alloc ?_ ?_ _); rotate_left; focus (first | (simp; done) | (simp; omega) | omega)) | ((with_reducible refine Below.setCell ?_ ?_ _); rotate_left; focus (first | (simp; done) | (simp; omega) | omega)))) hb; first | (have N2 := strR_step N2.out (by repeat (first | (with_reducible exact Below.refl _ _) | (with_reducible exact Below.refl _ _) | (with_reducible apply Below.drew) | (with_reducible apply below_alloc) | ((with_reducible refine Below.alloc ?_ ?_ _); rotate_left; focus (first | (simp; done) | (simp; omega) | omega)) | ((with_reducible refine Below.setCell ?_ ?_ _); rotate_left; focus (first | (simp; done) | (simp; omega) | omega)))) hb) | skip; clear hb os) | (go_at_call 27; refine Calls.mono (refStrNew_any _) ?_; rintro e wk ⟨ta, tc, rfl, os, hb⟩; have N2 : Hid (StrR wk _ newS) := Lib.hid os.reads; have HR : Hid (Below w9.heap.size w9 wk) := below_step (by repeat (first | (with_reducible exact HR.out) | (with_reducible exact Below.refl _ _) | (with_reducible apply Below.drew) | (with_reducible apply below_alloc) | ((with_reducible refine Below.alloc ?_ ?_ _); rotate_left; focus (first | (simp; done) | (simp; omega) | omega)) | ((with_reducible refine Below.setCell ?_ ?_ _); rotate_left; focus (first | (simp; done) | (simp; omega) | omega)))) hb; first | (have N1 := strR_step N1.out (by repeat (first | (with_reducible exact Below.refl _ _) | (with_reducible exact Below.refl _ _) | (with_reducible apply Below.drew) | (with_reducible apply below_alloc) | ((with_reducible refine Below.alloc ?_ ?_ _); rotate_left; focus (first | (simp; done) | (simp; omega) | omega)) | ((with_reducible refine Below.setCell ?_ ?_ _); rotate_left; focus (first | (simp; done) | (simp; omega) | omega)))) hb) | skip; clear hb os))
    all_goals
      go_wp2_with fail
      go_meet
      case rel => exact ⟨rfl, HR⟩
  case rest =>
    obtain ⟨rfl, hb⟩ := hcut
    replace HB : Hid (Below w.heap.size w _) := below_step (by repeat (first | (with_reducible exact HB.out) | (with_reducible exact Below.refl _ _) | (with_reducible apply Below.drew) | (with_reducible apply below_alloc) | ((with_reducible refine Below.alloc ?_ ?_ _); rotate_left; focus (first | (simp; done) | (simp; omega) | omega)) | ((with_reducible refine Below.setCell ?_ ?_ _); rotate_left; focus (first | (simp; done) | (simp; omega) | omega)))) hb.out
    clear a0 a1 az al
    replace HA : Hid (Blk _ (w.heap.size) _ _) := Blk.step (by repeat (first | (with_reducible exact HA.out) | ((with_reducible apply Blk.new); focus (first | rfl | (simp; done) | (simp; omega))) | (with_reducible apply Blk.drew) | (with_reducible apply Blk.alloc) | (with_reducible apply Blk.set_) | ((with_reducible apply Blk.far); rotate_left; focus (first | (simp; done) | (simp; omega) | omega)))) hb.out
    obtain ⟨a0, a1, az⟩ := cells2 HA.out
    have al := Blk.lt HA.out
    clear o0 o1 oz ol
    replace HO : Hid (Blk _ (w3.heap.size) _ _) := Blk.step (by repeat (first | (with_reducible exact HO.out) | ((with_reducible apply Blk.new); focus (first | rfl | (simp; done) | (simp; omega))) | (with_reducible apply Blk.drew) | (with_reducible apply Blk.alloc) | (with_reducible apply Blk.set_) | ((with_reducible apply Blk.far); rotate_left; focus (first | (simp; done) | (simp; omega) | omega)))) hb.out
    obtain ⟨o0, o1, oz⟩ := cells2 HO.out
    have ol := Blk.lt HO.out
    clear u0 u1 uz ul
    replace HU : Hid (Blk _ (w4.heap.size) _ _) := Blk.step (by repeat (first | (with_reducible exact HU.out) | ((with_reducible apply Blk.new); focus (first | rfl | (simp; done) | (simp; omega))) | (with_reducible apply Blk.drew) | (with_reducible apply Blk.alloc) | (with_reducible apply Blk.set_) | ((with_reducible apply Blk.far); rotate_left; focus (first | (simp; done) | (simp; omega) | omega)))) hb.out
    obtain ⟨u0, u1, uz⟩ := cells2 HU.out
    have ul := Blk.lt HU.out
    clear x0 x1 xz xl
    replace HX : Hid (Blk _ (w6.heap.size) _ _) := Blk.step (by repeat (first | (with_reducible exact HX.out) | ((with_reducible apply Blk.new); focus (first | rfl | (simp; done) | (simp; omega))) | (with_reducible apply Blk.drew) | (with_reducible apply Blk.alloc) | (with_reducible apply Blk.set_) | ((with_reducible apply Blk.far); rotate_left; focus (first | (simp; done) | (simp; omega) | omega)))) hb.out
    obtain ⟨x0, x1, xz⟩ := cells2 HX.out
    have xl := Blk.lt HX.out
    clear z0 z1 zz zl
    replace HZ : Hid (Blk _ (w8.heap.size) _ _) := Blk.step (by repeat (first | (with_reducible exact HZ.out) | ((with_reducible apply Blk.new); focus (first | rfl | (simp; done) | (simp; omega))) | (with_reducible apply Blk.drew) | (with_reducible apply Blk.alloc) | (with_reducible apply Blk.set_) | ((with_reducible apply Blk.far); rotate_left; focus (first | (simp; done) | (simp; omega) | omega)))) hb.out
    obtain ⟨z0, z1, zz⟩ := cells2 HZ.out
    have zl := Blk.lt HZ.out
    replace SS : Hid (StrR _ _ _) := strR_step SS.out (by repeat (first | (with_reducible exact Below.refl _ _) | (with_reducible exact Below.refl _ _) | (with_reducible apply Below.drew) | (with_reducible apply below_alloc) | ((with_reducible refine Below.alloc ?_ ?_ _); rotate_left; focus (first | (simp; done) | (simp; omega) | omega)) | ((with_reducible refine Below.setCell ?_ ?_ _); rotate_left; focus (first | (simp; done) | (simp; omega) | omega)))) hb.out
    replace H3 : Hid (Below w3.heap.size w3 _) := below_step (by repeat (first | (with_reducible exact H3.out) | (with_reducible exact Below.refl _ _) | (with_reducible apply Below.drew) | (with_reducible apply below_alloc) | ((with_reducible refine Below.alloc ?_ ?_ _); rotate_left; focus (first | (simp; done) | (simp; omega) | omega)) | ((with_reducible refine Below.setCell ?_ ?_ _); rotate_left; focus (first | (simp; done) | (simp; omega) | omega)))) hb.out
    replace KA := Lib.hid (KA.out.step (by omega) hb.out)
    replace KX := Lib.hid (KX.out.step (by omega) hb.out)
    replace KT := Lib.hid (KT.out.step (by omega) hb.out)
    have s10 : w9.heap.size ≤ wc.heap.size := hb.out.size
    clear hb
    go_wp2_with fail
    refine Calls.mono (strSpoil_any KA.out (by omega) (by omega)) ?_
    rintro e w10 ⟨⟨r, rfl⟩, hb, hf⟩
    have HFR := Lib.hid hf
    replace HB : Hid (Below w.heap.size w w10) := Lib.hid (HB.out.trans (hb.mono (by omega)))
    replace H3 : Hid (Below w3.heap.size w3 w10) := Lib.hid (H3.out.trans (hb.mono (by omega)))
    clear a0 a1 az al o0 o1 oz ol u0 u1 uz ul x0 x1 xz xl z0 z1 zz zl HU SS
    replace HA := Lib.hid (HA.out.below hb (by omega))
    replace HO := Lib.hid (HO.out.below hb (by omega))
    replace HX := Lib.hid (Blk.eq HX.out (HFR.out _ (by omega) (by omega)))
    replace HZ := Lib.hid (Blk.eq HZ.out (HFR.out _ (by omega) (by omega)))
    replace KX := Lib.hid (KX.out.band (fun K h1 h2 => HFR.out K (by omega) (by omega)))
    replace KT := Lib.hid (KT.out.band (fun K h1 h2 => HFR.out K (by omega) (by omega)))
    have s11 : wc.heap.size ≤ w10.heap.size := hb.size
    clear hb hf HFR KA
    obtain ⟨a0, a1, az⟩ := cells2 HA.out
    obtain ⟨o0, o1, oz⟩ := cells2 HO.out
    obtain ⟨x0, x1, xz⟩ := cells2 HX.out
    obtain ⟨z0, z1, zz⟩ := cells2 HZ.out
    go_wp2_with fail
    refine Calls.mono (strSpoil_any KX.out (by omega) (by omega)) ?_
    rintro e w11 ⟨⟨r2, rfl⟩, hb, hf⟩
    have HFR := Lib.hid hf
    replace HB : Hid (Below w.heap.size w w11) := Lib.hid (HB.out.trans (hb.mono (by omega)))
    replace H3 : Hid (Below w3.heap.size w3 w11) := Lib.hid (H3.out.trans (hb.mono (by omega)))
    clear a0 a1 az o0 o1 oz x0 x1 xz z0 z1 zz HX
    replace HA := Lib.hid (HA.out.below hb (by omega))
    replace HO := Lib.hid (HO.out.below hb (by omega))
    replace HZ := Lib.hid (Blk.eq HZ.out (HFR.out _ (by omega) (by omega)))
    replace KT := Lib.hid (KT.out.band (fun K h1 h2 => HFR.out K (by omega) (by omega)))
    have s12 : w10.heap.size ≤ w11.heap.size := hb.size
    clear hb hf HFR KX
    obtain ⟨a0, a1, az⟩ := cells2 HA.out
    obtain ⟨o0, o1, oz⟩ := cells2 HO.out
    obtain ⟨z0, z1, zz⟩ := cells2 HZ.out
    go_wp2_with fail
    refine Calls.mono (strSpoil_any KT.out (by omega) (by omega)) ?_
    rintro e w12 ⟨⟨r3, rfl⟩, hb, -⟩
    replace HB : Hid (Below w.heap.size w w12) := Lib.hid (HB.out.trans (hb.mono (by omega)))
    replace H3 : Hid (Below w3.heap.size w3 w12) := Lib.hid (H3.out.trans (hb.mono (by omega)))
    clear a0 a1 az o0 o1 oz z0 z1 zz HZ
    replace HA := Lib.hid (HA.out.below hb (by omega))
    replace HO := Lib.hid (HO.out.below hb (by omega))
    clear hb KT
    obtain ⟨a0, a1, az⟩ := cells2 HA.out
    obtain ⟨o0, o1, oz⟩ := cells2 HO.out
    go_wp2_with fail
    refine Calls.mono (rsame s (SO3.out.below H3.out) (SS0.out.below HB.out)) ?_
    rintro e w13 ⟨rfl, hb⟩
    replace HB : Hid (Below w.heap.size w _) := below_step (by repeat (first | (with_reducible exact HB.out) | (with_reducible exact Below.refl _ _) | (with_reducible apply Below.drew) | (with_reducible apply below_alloc) | ((with_reducible refine Below.alloc ?_ ?_ _); rotate_left; focus (first | (simp; done) | (simp; omega) | omega)) | ((with_reducible refine Below.setCell ?_ ?_ _); rotate_left; focus (first | (simp; done) | (simp; omega) | omega)))) hb
    go_wp2_with fail
    go_ret
    exact ⟨rfl, HB.out⟩
end Go.Proofs.Ytblgmjbajnkcdaa.StrTurns
