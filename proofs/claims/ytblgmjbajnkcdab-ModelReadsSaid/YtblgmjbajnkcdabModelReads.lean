/-
  The given statement ModelReads: what is read of a model is what is read of the stream that it stands for. No condition.
-/
import Derived.Test.YtblgmjbajnkcdabRows
import Derived.Test.YtblgmjbajnkcdabChecked
import Derived.Test.YtblgmjbajnkcdabLaw
import Derived.Test.YtblgmjbajnkcdabMdlTy
import Derived.Test.YtblgmjbajnkcdabMdlGreat
import Derived.Test.YtblgmjbajnkcdabMdlTwo
import Derived.Test.YtblgmjbajnkcdabMdlOne
import Derived.Test.YtblgmjbajnkcdabMdlStream
import Derived.Test.YtblgmjbajnkcdabMdlLaw
import Derived.Test.YtblgmjbajnkcdabBunS
import Derived.KernelRfl
import Derived.ChangeMaps5
namespace Go.Proofs.Ytblgmjbajnkcdab.ModelReads
open Go.RowKit Go.ChangeShapes Go.WideShapes Go.ChangeAt Go.ChangeMaps

theorem eq_self (x : Ent) (w : World) : (binOp .eql 29 (.agg #[.int .i64 x.off, .int .i64 x.id, .string x.key, .string x.body]) (.agg #[.int .i64 x.off, .int .i64 x.id, .string x.key, .string x.body])).run Try.prog w = .ok (.bool true) w := by
  have := ent_eql x x w
  rwa [(eqEnt_iff x x).2 rfl] at this

set_option maxHeartbeats 8000000 in
set_option maxRecDepth 100000 in
theorem walk {v : Value} {s : Mdl} {w : World} (n o k : Int) (h : MdlR w v s) (F : FitMdl s) : Calls Try.prog 6 #[v, .int .i64 n, .int .i64 o, .int .i64 k] w (LawEnd w) := by
  have S := Lib.hid h
  have HSZ := Lib.hid (mfit_sizes F)
  have HRW := Lib.hid (mfit_rows F)
  obtain ⟨a, cap, b, nc, cc, rfl, _, _⟩ := h.shape
  clear F h
  obtain ⟨x, e1, h1⟩ : ∃ x e, fetchM s n o = (x, e) := ⟨_, _, rfl⟩
  obtain ⟨y, e2, h2⟩ : ∃ x e, farM s n k = (x, e) := ⟨_, _, rfl⟩
  obtain ⟨z, e3, h3⟩ : ∃ x e, endM s n = (x, e) := ⟨_, _, rfl⟩
  have H1 := Lib.hid h1
  have H2 := Lib.hid h2
  have H3 := Lib.hid h3
  have hG := ent_eqGuard
  have hE := eq_self x
  clear h1 h2 h3
  go_enter Try.func6, Try.ntmps6
  go_wp2_with fail
  refine Calls.mono (mdlAlive_any _) ?_
  rintro e w1 ⟨rfl, hb⟩
  have HB : Hid (Below w.heap.size w _) := below_step (by repeat (first | (with_reducible exact Below.refl _ _) | (with_reducible exact Below.refl _ _) | (with_reducible apply Below.drew) | (with_reducible apply below_alloc) | ((with_reducible refine Below.alloc ?_ ?_ _); rotate_left; focus (first | (simp; done) | (simp; omega) | omega)) | ((with_reducible refine Below.setCell ?_ ?_ _); rotate_left; focus (first | (simp; done) | (simp; omega) | omega)))) hb
  have A : Blk _ (w.heap.size) _ _ := Blk.step (by repeat (first | ((with_reducible apply Blk.new); focus (first | rfl | (simp; done) | (simp; omega))) | (with_reducible apply Blk.drew) | (with_reducible apply Blk.alloc) | (with_reducible apply Blk.set_) | ((with_reducible apply Blk.far); rotate_left; focus (first | (simp; done) | (simp; omega) | omega)))) hb
  obtain ⟨a0, a1, az⟩ := cells2 A
  have al := Blk.lt A
  have HA := Lib.hid A
  clear A
  replace S : Hid (MdlR _ _ _) := mdlR_step S.out (by repeat (first | (with_reducible exact Below.refl _ _) | (with_reducible exact Below.refl _ _) | (with_reducible apply Below.drew) | (with_reducible apply below_alloc) | ((with_reducible refine Below.alloc ?_ ?_ _); rotate_left; focus (first | (simp; done) | (simp; omega) | omega)) | ((with_reducible refine Below.setCell ?_ ?_ _); rotate_left; focus (first | (simp; done) | (simp; omega) | omega)))) hb
  clear hb
  go_wp2_with fail
  refine Calls.mono (mdlGreat_any ?_ HSZ.out HRW.out) ?_
  · exact S.out.below (by repeat (first | (with_reducible exact Below.refl _ _) | (with_reducible exact Below.refl _ _) | (with_reducible apply Below.drew) | (with_reducible apply below_alloc) | ((with_reducible refine Below.alloc ?_ ?_ _); rotate_left; focus (first | (simp; done) | (simp; omega) | omega)) | ((with_reducible refine Below.setCell ?_ ?_ _); rotate_left; focus (first | (simp; done) | (simp; omega) | omega))))
  rintro e w2 ⟨⟨gr, rfl, hgr⟩, hb⟩
  replace HB : Hid (Below w.heap.size w _) := below_step (by repeat (first | (with_reducible exact HB.out) | (with_reducible exact Below.refl _ _) | (with_reducible apply Below.drew) | (with_reducible apply below_alloc) | ((with_reducible refine Below.alloc ?_ ?_ _); rotate_left; focus (first | (simp; done) | (simp; omega) | omega)) | ((with_reducible refine Below.setCell ?_ ?_ _); rotate_left; focus (first | (simp; done) | (simp; omega) | omega)))) hb
  clear a0 a1 az al
  replace HA : Hid (Blk _ (w.heap.size) _ _) := Blk.step (by repeat (first | (with_reducible exact HA.out) | ((with_reducible apply Blk.new); focus (first | rfl | (simp; done) | (simp; omega))) | (with_reducible apply Blk.drew) | (with_reducible apply Blk.alloc) | (with_reducible apply Blk.set_) | ((with_reducible apply Blk.far); rotate_left; focus (first | (simp; done) | (simp; omega) | omega)))) hb
  obtain ⟨a0, a1, az⟩ := cells2 HA.out
  have al := Blk.lt HA.out
  replace S : Hid (MdlR _ _ _) := mdlR_step S.out (by repeat (first | (with_reducible exact Below.refl _ _) | (with_reducible exact Below.refl _ _) | (with_reducible apply Below.drew) | (with_reducible apply below_alloc) | ((with_reducible refine Below.alloc ?_ ?_ _); rotate_left; focus (first | (simp; done) | (simp; omega) | omega)) | ((with_reducible refine Below.setCell ?_ ?_ _); rotate_left; focus (first | (simp; done) | (simp; omega) | omega)))) hb
  have HLT := Lib.hid hgr
  clear hb hgr
  cases gr
  rotate_left
  · go_wp2_with fail
    go_ret
    exact ⟨rfl, HB.out⟩
  have HFW := Lib.hid (HLT.out (by first | rfl | trivial)).2
  by_cases hm : mayM s
  · have HST := Lib.hid (show streamE s = (streamM s, 0) by rw [streamE, if_pos hm])
    have HK := Lib.hid (keysS_of_may (mayM_str hm))
    have L1 := Lib.hid ((fetchM_str hm n o).trans H1.out)
    have L2 := Lib.hid ((farM_str hm n k).trans H2.out)
    have L3 := Lib.hid ((endM_str hm n).trans H3.out)
    clear hm
    go_wp2_with fail
    refine Calls.mono (mdlStream_any ?_ HFW.out HST.out) ?_
    · exact S.out.below (by repeat (first | (with_reducible exact Below.refl _ _) | (with_reducible exact Below.refl _ _) | (with_reducible apply Below.drew) | (with_reducible apply below_alloc) | ((with_reducible refine Below.alloc ?_ ?_ _); rotate_left; focus (first | (simp; done) | (simp; omega) | omega)) | ((with_reducible refine Below.setCell ?_ ?_ _); rotate_left; focus (first | (simp; done) | (simp; omega) | omega))))
    rintro e w3 ⟨ta, tc, rfl, os, hb⟩
    obtain ⟨a3, cap3, b3, nc3, cc3, ev, -, -⟩ := os.reads.shape
    cases ev
    replace HB : Hid (Below w.heap.size w _) := below_step (by repeat (first | (with_reducible exact HB.out) | (with_reducible exact Below.refl _ _) | (with_reducible apply Below.drew) | (with_reducible apply below_alloc) | ((with_reducible refine Below.alloc ?_ ?_ _); rotate_left; focus (first | (simp; done) | (simp; omega) | omega)) | ((with_reducible refine Below.setCell ?_ ?_ _); rotate_left; focus (first | (simp; done) | (simp; omega) | omega)))) hb
    clear a0 a1 az al
    replace HA : Hid (Blk _ (w.heap.size) _ _) := Blk.step (by repeat (first | (with_reducible exact HA.out) | ((with_reducible apply Blk.new); focus (first | rfl | (simp; done) | (simp; omega))) | (with_reducible apply Blk.drew) | (with_reducible apply Blk.alloc) | (with_reducible apply Blk.set_) | ((with_reducible apply Blk.far); rotate_left; focus (first | (simp; done) | (simp; omega) | omega)))) hb
    obtain ⟨a0, a1, az⟩ := cells2 HA.out
    have al := Blk.lt HA.out
    replace S : Hid (MdlR _ _ _) := mdlR_step S.out (by repeat (first | (with_reducible exact Below.refl _ _) | (with_reducible exact Below.refl _ _) | (with_reducible apply Below.drew) | (with_reducible apply below_alloc) | ((with_reducible refine Below.alloc ?_ ?_ _); rotate_left; focus (first | (simp; done) | (simp; omega) | omega)) | ((with_reducible refine Below.setCell ?_ ?_ _); rotate_left; focus (first | (simp; done) | (simp; omega) | omega)))) hb
    have T : Hid (StrR w3 _ (streamM s)) := Lib.hid os.reads
    have s3 : w.heap.size < w3.heap.size := al
    clear hb os
    go_wp2_with fail
    refine Calls.mono (mdlFetch_any n o ?_ HFW.out H1.out) ?_
    · exact S.out.below (by repeat (first | (with_reducible exact Below.refl _ _) | (with_reducible exact Below.refl _ _) | (with_reducible apply Below.drew) | (with_reducible apply below_alloc) | ((with_reducible refine Below.alloc ?_ ?_ _); rotate_left; focus (first | (simp; done) | (simp; omega) | omega)) | ((with_reducible refine Below.setCell ?_ ?_ _); rotate_left; focus (first | (simp; done) | (simp; omega) | omega))))
    rintro e w4 ⟨rfl, hb⟩
    replace HB : Hid (Below w.heap.size w _) := below_step (by repeat (first | (with_reducible exact HB.out) | (with_reducible exact Below.refl _ _) | (with_reducible apply Below.drew) | (with_reducible apply below_alloc) | ((with_reducible refine Below.alloc ?_ ?_ _); rotate_left; focus (first | (simp; done) | (simp; omega) | omega)) | ((with_reducible refine Below.setCell ?_ ?_ _); rotate_left; focus (first | (simp; done) | (simp; omega) | omega)))) hb
    clear a0 a1 az al
    replace HA : Hid (Blk _ (w.heap.size) _ _) := Blk.step (by repeat (first | (with_reducible exact HA.out) | ((with_reducible apply Blk.new); focus (first | rfl | (simp; done) | (simp; omega))) | (with_reducible apply Blk.drew) | (with_reducible apply Blk.alloc) | (with_reducible apply Blk.set_) | ((with_reducible apply Blk.far); rotate_left; focus (first | (simp; done) | (simp; omega) | omega)))) hb
    obtain ⟨a0, a1, az⟩ := cells2 HA.out
    have al := Blk.lt HA.out
    replace S : Hid (MdlR _ _ _) := mdlR_step S.out (by repeat (first | (with_reducible exact Below.refl _ _) | (with_reducible exact Below.refl _ _) | (with_reducible apply Below.drew) | (with_reducible apply below_alloc) | ((with_reducible refine Below.alloc ?_ ?_ _); rotate_left; focus (first | (simp; done) | (simp; omega) | omega)) | ((with_reducible refine Below.setCell ?_ ?_ _); rotate_left; focus (first | (simp; done) | (simp; omega) | omega)))) hb
    replace T : Hid (StrR _ _ _) := strR_step T.out (by repeat (first | (with_reducible exact Below.refl _ _) | (with_reducible exact Below.refl _ _) | (with_reducible apply Below.drew) | (with_reducible apply below_alloc) | ((with_reducible refine Below.alloc ?_ ?_ _); rotate_left; focus (first | (simp; done) | (simp; omega) | omega)) | ((with_reducible refine Below.setCell ?_ ?_ _); rotate_left; focus (first | (simp; done) | (simp; omega) | omega)))) hb
    have C : Blk _ (w3.heap.size) _ _ := Blk.step (by repeat (first | ((with_reducible apply Blk.new); focus (first | rfl | (simp; done) | (simp; omega))) | (with_reducible apply Blk.drew) | (with_reducible apply Blk.alloc) | (with_reducible apply Blk.set_) | ((with_reducible apply Blk.far); rotate_left; focus (first | (simp; done) | (simp; omega) | omega)))) hb
    obtain ⟨c0, c1, cz⟩ := cells2 C
    have cl := Blk.lt C
    have HC := Lib.hid C
    clear C
    have s4 : w.heap.size < w4.heap.size ∧ w3.heap.size < w4.heap.size := ⟨al, cl⟩
    clear hb
    go_wp2_with fail
    refine Calls.mono (strFetch_any n o ?_ HK.out L1.out) ?_
    · exact T.out.below (by repeat (first | (with_reducible exact Below.refl _ _) | (with_reducible exact Below.refl _ _) | (with_reducible apply Below.drew) | (with_reducible apply below_alloc) | ((with_reducible refine Below.alloc ?_ ?_ _); rotate_left; focus (first | (simp; done) | (simp; omega) | omega)) | ((with_reducible refine Below.setCell ?_ ?_ _); rotate_left; focus (first | (simp; done) | (simp; omega) | omega))))
    rintro e w5 ⟨rfl, hb⟩
    replace HB : Hid (Below w.heap.size w _) := below_step (by repeat (first | (with_reducible exact HB.out) | (with_reducible exact Below.refl _ _) | (with_reducible apply Below.drew) | (with_reducible apply below_alloc) | ((with_reducible refine Below.alloc ?_ ?_ _); rotate_left; focus (first | (simp; done) | (simp; omega) | omega)) | ((with_reducible refine Below.setCell ?_ ?_ _); rotate_left; focus (first | (simp; done) | (simp; omega) | omega)))) hb
    clear a0 a1 az al
    replace HA : Hid (Blk _ (w.heap.size) _ _) := Blk.step (by repeat (first | (with_reducible exact HA.out) | ((with_reducible apply Blk.new); focus (first | rfl | (simp; done) | (simp; omega))) | (with_reducible apply Blk.drew) | (with_reducible apply Blk.alloc) | (with_reducible apply Blk.set_) | ((with_reducible apply Blk.far); rotate_left; focus (first | (simp; done) | (simp; omega) | omega)))) hb
    obtain ⟨a0, a1, az⟩ := cells2 HA.out
    have al := Blk.lt HA.out
    clear c0 c1 cz cl
    replace HC : Hid (Blk _ (w3.heap.size) _ _) := Blk.step (by repeat (first | (with_reducible exact HC.out) | ((with_reducible apply Blk.new); focus (first | rfl | (simp; done) | (simp; omega))) | (with_reducible apply Blk.drew) | (with_reducible apply Blk.alloc) | (with_reducible apply Blk.set_) | ((with_reducible apply Blk.far); rotate_left; focus (first | (simp; done) | (simp; omega) | omega)))) hb
    obtain ⟨c0, c1, cz⟩ := cells2 HC.out
    have cl := Blk.lt HC.out
    replace S : Hid (MdlR _ _ _) := mdlR_step S.out (by repeat (first | (with_reducible exact Below.refl _ _) | (with_reducible exact Below.refl _ _) | (with_reducible apply Below.drew) | (with_reducible apply below_alloc) | ((with_reducible refine Below.alloc ?_ ?_ _); rotate_left; focus (first | (simp; done) | (simp; omega) | omega)) | ((with_reducible refine Below.setCell ?_ ?_ _); rotate_left; focus (first | (simp; done) | (simp; omega) | omega)))) hb
    replace T : Hid (StrR _ _ _) := strR_step T.out (by repeat (first | (with_reducible exact Below.refl _ _) | (with_reducible exact Below.refl _ _) | (with_reducible apply Below.drew) | (with_reducible apply below_alloc) | ((with_reducible refine Below.alloc ?_ ?_ _); rotate_left; focus (first | (simp; done) | (simp; omega) | omega)) | ((with_reducible refine Below.setCell ?_ ?_ _); rotate_left; focus (first | (simp; done) | (simp; omega) | omega)))) hb
    have D : Blk _ (w4.heap.size) _ _ := Blk.step (by repeat (first | ((with_reducible apply Blk.new); focus (first | rfl | (simp; done) | (simp; omega))) | (with_reducible apply Blk.drew) | (with_reducible apply Blk.alloc) | (with_reducible apply Blk.set_) | ((with_reducible apply Blk.far); rotate_left; focus (first | (simp; done) | (simp; omega) | omega)))) hb
    obtain ⟨d0, d1, d2, d3, dz⟩ := cells4 D
    have dl := Blk.lt D
    have HD := Lib.hid D
    clear D
    have s5 : (w.heap.size < w5.heap.size ∧ w3.heap.size < w5.heap.size) ∧ w4.heap.size < w5.heap.size := ⟨⟨al, cl⟩, dl⟩
    clear hb
    go_wp2_with fail
    refine Calls.mono (mdlFar_any n k ?_ HFW.out H2.out) ?_
    · exact S.out.below (by repeat (first | (with_reducible exact Below.refl _ _) | (with_reducible exact Below.refl _ _) | (with_reducible apply Below.drew) | (with_reducible apply below_alloc) | ((with_reducible refine Below.alloc ?_ ?_ _); rotate_left; focus (first | (simp; done) | (simp; omega) | omega)) | ((with_reducible refine Below.setCell ?_ ?_ _); rotate_left; focus (first | (simp; done) | (simp; omega) | omega))))
    rintro e w6 ⟨rfl, hb⟩
    replace HB : Hid (Below w.heap.size w _) := below_step (by repeat (first | (with_reducible exact HB.out) | (with_reducible exact Below.refl _ _) | (with_reducible apply Below.drew) | (with_reducible apply below_alloc) | ((with_reducible refine Below.alloc ?_ ?_ _); rotate_left; focus (first | (simp; done) | (simp; omega) | omega)) | ((with_reducible refine Below.setCell ?_ ?_ _); rotate_left; focus (first | (simp; done) | (simp; omega) | omega)))) hb
    clear a0 a1 az al
    replace HA : Hid (Blk _ (w.heap.size) _ _) := Blk.step (by repeat (first | (with_reducible exact HA.out) | ((with_reducible apply Blk.new); focus (first | rfl | (simp; done) | (simp; omega))) | (with_reducible apply Blk.drew) | (with_reducible apply Blk.alloc) | (with_reducible apply Blk.set_) | ((with_reducible apply Blk.far); rotate_left; focus (first | (simp; done) | (simp; omega) | omega)))) hb
    obtain ⟨a0, a1, az⟩ := cells2 HA.out
    have al := Blk.lt HA.out
    clear c0 c1 cz cl
    replace HC : Hid (Blk _ (w3.heap.size) _ _) := Blk.step (by repeat (first | (with_reducible exact HC.out) | ((with_reducible apply Blk.new); focus (first | rfl | (simp; done) | (simp; omega))) | (with_reducible apply Blk.drew) | (with_reducible apply Blk.alloc) | (with_reducible apply Blk.set_) | ((with_reducible apply Blk.far); rotate_left; focus (first | (simp; done) | (simp; omega) | omega)))) hb
    obtain ⟨c0, c1, cz⟩ := cells2 HC.out
    have cl := Blk.lt HC.out
    clear d0 d1 d2 d3 dz dl
    replace HD : Hid (Blk _ (w4.heap.size) _ _) := Blk.step (by repeat (first | (with_reducible exact HD.out) | ((with_reducible apply Blk.new); focus (first | rfl | (simp; done) | (simp; omega))) | (with_reducible apply Blk.drew) | (with_reducible apply Blk.alloc) | (with_reducible apply Blk.set_) | ((with_reducible apply Blk.far); rotate_left; focus (first | (simp; done) | (simp; omega) | omega)))) hb
    obtain ⟨d0, d1, d2, d3, dz⟩ := cells4 HD.out
    have dl := Blk.lt HD.out
    replace S : Hid (MdlR _ _ _) := mdlR_step S.out (by repeat (first | (with_reducible exact Below.refl _ _) | (with_reducible exact Below.refl _ _) | (with_reducible apply Below.drew) | (with_reducible apply below_alloc) | ((with_reducible refine Below.alloc ?_ ?_ _); rotate_left; focus (first | (simp; done) | (simp; omega) | omega)) | ((with_reducible refine Below.setCell ?_ ?_ _); rotate_left; focus (first | (simp; done) | (simp; omega) | omega)))) hb
    replace T : Hid (StrR _ _ _) := strR_step T.out (by repeat (first | (with_reducible exact Below.refl _ _) | (with_reducible exact Below.refl _ _) | (with_reducible apply Below.drew) | (with_reducible apply below_alloc) | ((with_reducible refine Below.alloc ?_ ?_ _); rotate_left; focus (first | (simp; done) | (simp; omega) | omega)) | ((with_reducible refine Below.setCell ?_ ?_ _); rotate_left; focus (first | (simp; done) | (simp; omega) | omega)))) hb
    have E : Blk _ (w5.heap.size) _ _ := Blk.step (by repeat (first | ((with_reducible apply Blk.new); focus (first | rfl | (simp; done) | (simp; omega))) | (with_reducible apply Blk.drew) | (with_reducible apply Blk.alloc) | (with_reducible apply Blk.set_) | ((with_reducible apply Blk.far); rotate_left; focus (first | (simp; done) | (simp; omega) | omega)))) hb
    obtain ⟨e0, e1, e2, e3, ez⟩ := cells4 E
    have el := Blk.lt E
    have HE := Lib.hid E
    clear E
    have s6 : (w.heap.size < w6.heap.size ∧ w3.heap.size < w6.heap.size) ∧ w4.heap.size < w6.heap.size ∧ w5.heap.size < w6.heap.size := ⟨⟨al, cl⟩, dl, el⟩
    clear hb
    go_wp2_with fail
    refine Calls.mono (strFar_any n k ?_ HK.out L2.out) ?_
    · exact T.out.below (by repeat (first | (with_reducible exact Below.refl _ _) | (with_reducible exact Below.refl _ _) | (with_reducible apply Below.drew) | (with_reducible apply below_alloc) | ((with_reducible refine Below.alloc ?_ ?_ _); rotate_left; focus (first | (simp; done) | (simp; omega) | omega)) | ((with_reducible refine Below.setCell ?_ ?_ _); rotate_left; focus (first | (simp; done) | (simp; omega) | omega))))
    rintro e w7 ⟨rfl, hb⟩
    replace HB : Hid (Below w.heap.size w _) := below_step (by repeat (first | (with_reducible exact HB.out) | (with_reducible exact Below.refl _ _) | (with_reducible apply Below.drew) | (with_reducible apply below_alloc) | ((with_reducible refine Below.alloc ?_ ?_ _); rotate_left; focus (first | (simp; done) | (simp; omega) | omega)) | ((with_reducible refine Below.setCell ?_ ?_ _); rotate_left; focus (first | (simp; done) | (simp; omega) | omega)))) hb
    clear a0 a1 az al
    replace HA : Hid (Blk _ (w.heap.size) _ _) := Blk.step (by repeat (first | (with_reducible exact HA.out) | ((with_reducible apply Blk.new); focus (first | rfl | (simp; done) | (simp; omega))) | (with_reducible apply Blk.drew) | (with_reducible apply Blk.alloc) | (with_reducible apply Blk.set_) | ((with_reducible apply Blk.far); rotate_left; focus (first | (simp; done) | (simp; omega) | omega)))) hb
    obtain ⟨a0, a1, az⟩ := cells2 HA.out
    have al := Blk.lt HA.out
    clear c0 c1 cz cl
    replace HC : Hid (Blk _ (w3.heap.size) _ _) := Blk.step (by repeat (first | (with_reducible exact HC.out) | ((with_reducible apply Blk.new); focus (first | rfl | (simp; done) | (simp; omega))) | (with_reducible apply Blk.drew) | (with_reducible apply Blk.alloc) | (with_reducible apply Blk.set_) | ((with_reducible apply Blk.far); rotate_left; focus (first | (simp; done) | (simp; omega) | omega)))) hb
    obtain ⟨c0, c1, cz⟩ := cells2 HC.out
    have cl := Blk.lt HC.out
    clear d0 d1 d2 d3 dz dl
    replace HD : Hid (Blk _ (w4.heap.size) _ _) := Blk.step (by repeat (first | (with_reducible exact HD.out) | ((with_reducible apply Blk.new); focus (first | rfl | (simp; done) | (simp; omega))) | (with_reducible apply Blk.drew) | (with_reducible apply Blk.alloc) | (with_reducible apply Blk.set_) | ((with_reducible apply Blk.far); rotate_left; focus (first | (simp; done) | (simp; omega) | omega)))) hb
    obtain ⟨d0, d1, d2, d3, dz⟩ := cells4 HD.out
    have dl := Blk.lt HD.out
    clear e0 e1 e2 e3 ez el
    replace HE : Hid (Blk _ (w5.heap.size) _ _) := Blk.step (by repeat (first | (with_reducible exact HE.out) | ((with_reducible apply Blk.new); focus (first | rfl | (simp; done) | (simp; omega))) | (with_reducible apply Blk.drew) | (with_reducible apply Blk.alloc) | (with_reducible apply Blk.set_) | ((with_reducible apply Blk.far); rotate_left; focus (first | (simp; done) | (simp; omega) | omega)))) hb
    obtain ⟨e0, e1, e2, e3, ez⟩ := cells4 HE.out
    have el := Blk.lt HE.out
    replace S : Hid (MdlR _ _ _) := mdlR_step S.out (by repeat (first | (with_reducible exact Below.refl _ _) | (with_reducible exact Below.refl _ _) | (with_reducible apply Below.drew) | (with_reducible apply below_alloc) | ((with_reducible refine Below.alloc ?_ ?_ _); rotate_left; focus (first | (simp; done) | (simp; omega) | omega)) | ((with_reducible refine Below.setCell ?_ ?_ _); rotate_left; focus (first | (simp; done) | (simp; omega) | omega)))) hb
    replace T : Hid (StrR _ _ _) := strR_step T.out (by repeat (first | (with_reducible exact Below.refl _ _) | (with_reducible exact Below.refl _ _) | (with_reducible apply Below.drew) | (with_reducible apply below_alloc) | ((with_reducible refine Below.alloc ?_ ?_ _); rotate_left; focus (first | (simp; done) | (simp; omega) | omega)) | ((with_reducible refine Below.setCell ?_ ?_ _); rotate_left; focus (first | (simp; done) | (simp; omega) | omega)))) hb
    have s7 : (w.heap.size < w7.heap.size ∧ w3.heap.size < w7.heap.size) ∧ w4.heap.size < w7.heap.size ∧ w5.heap.size < w7.heap.size := ⟨⟨al, cl⟩, dl, el⟩
    clear hb
    go_wp2_with fail
    refine Calls.mono (mdlEnd_any n ?_ HFW.out H3.out) ?_
    · exact S.out.below (by repeat (first | (with_reducible exact Below.refl _ _) | (with_reducible exact Below.refl _ _) | (with_reducible apply Below.drew) | (with_reducible apply below_alloc) | ((with_reducible refine Below.alloc ?_ ?_ _); rotate_left; focus (first | (simp; done) | (simp; omega) | omega)) | ((with_reducible refine Below.setCell ?_ ?_ _); rotate_left; focus (first | (simp; done) | (simp; omega) | omega))))
    rintro e w8 ⟨rfl, hb⟩
    replace HB : Hid (Below w.heap.size w _) := below_step (by repeat (first | (with_reducible exact HB.out) | (with_reducible exact Below.refl _ _) | (with_reducible apply Below.drew) | (with_reducible apply below_alloc) | ((with_reducible refine Below.alloc ?_ ?_ _); rotate_left; focus (first | (simp; done) | (simp; omega) | omega)) | ((with_reducible refine Below.setCell ?_ ?_ _); rotate_left; focus (first | (simp; done) | (simp; omega) | omega)))) hb
    clear c0 c1 cz cl
    replace HC : Hid (Blk _ (w3.heap.size) _ _) := Blk.step (by repeat (first | (with_reducible exact HC.out) | ((with_reducible apply Blk.new); focus (first | rfl | (simp; done) | (simp; omega))) | (with_reducible apply Blk.drew) | (with_reducible apply Blk.alloc) | (with_reducible apply Blk.set_) | ((with_reducible apply Blk.far); rotate_left; focus (first | (simp; done) | (simp; omega) | omega)))) hb
    obtain ⟨c0, c1, cz⟩ := cells2 HC.out
    have cl := Blk.lt HC.out
    clear d0 d1 d2 d3 dz dl
    replace HD : Hid (Blk _ (w4.heap.size) _ _) := Blk.step (by repeat (first | (with_reducible exact HD.out) | ((with_reducible apply Blk.new); focus (first | rfl | (simp; done) | (simp; omega))) | (with_reducible apply Blk.drew) | (with_reducible apply Blk.alloc) | (with_reducible apply Blk.set_) | ((with_reducible apply Blk.far); rotate_left; focus (first | (simp; done) | (simp; omega) | omega)))) hb
    obtain ⟨d0, d1, d2, d3, dz⟩ := cells4 HD.out
    have dl := Blk.lt HD.out
    clear e0 e1 e2 e3 ez el
    replace HE : Hid (Blk _ (w5.heap.size) _ _) := Blk.step (by repeat (first | (with_reducible exact HE.out) | ((with_reducible apply Blk.new); focus (first | rfl | (simp; done) | (simp; omega))) | (with_reducible apply Blk.drew) | (with_reducible apply Blk.alloc) | (with_reducible apply Blk.set_) | ((with_reducible apply Blk.far); rotate_left; focus (first | (simp; done) | (simp; omega) | omega)))) hb
    obtain ⟨e0, e1, e2, e3, ez⟩ := cells4 HE.out
    have el := Blk.lt HE.out
    replace T : Hid (StrR _ _ _) := strR_step T.out (by repeat (first | (with_reducible exact Below.refl _ _) | (with_reducible exact Below.refl _ _) | (with_reducible apply Below.drew) | (with_reducible apply below_alloc) | ((with_reducible refine Below.alloc ?_ ?_ _); rotate_left; focus (first | (simp; done) | (simp; omega) | omega)) | ((with_reducible refine Below.setCell ?_ ?_ _); rotate_left; focus (first | (simp; done) | (simp; omega) | omega)))) hb
    have s8 : w3.heap.size < w8.heap.size ∧ w4.heap.size < w8.heap.size ∧ w5.heap.size < w8.heap.size := ⟨cl, dl, el⟩
    clear hb a0 a1 az al HA S
    go_wp2_with fail
    refine Calls.mono (strEnd_any n ?_ HK.out L3.out) ?_
    · exact T.out.below (by repeat (first | (with_reducible exact Below.refl _ _) | (with_reducible exact Below.refl _ _) | (with_reducible apply Below.drew) | (with_reducible apply below_alloc) | ((with_reducible refine Below.alloc ?_ ?_ _); rotate_left; focus (first | (simp; done) | (simp; omega) | omega)) | ((with_reducible refine Below.setCell ?_ ?_ _); rotate_left; focus (first | (simp; done) | (simp; omega) | omega))))
    rintro e w9 ⟨rfl, hb⟩
    replace HB : Hid (Below w.heap.size w _) := below_step (by repeat (first | (with_reducible exact HB.out) | (with_reducible exact Below.refl _ _) | (with_reducible apply Below.drew) | (with_reducible apply below_alloc) | ((with_reducible refine Below.alloc ?_ ?_ _); rotate_left; focus (first | (simp; done) | (simp; omega) | omega)) | ((with_reducible refine Below.setCell ?_ ?_ _); rotate_left; focus (first | (simp; done) | (simp; omega) | omega)))) hb
    clear d0 d1 d2 d3 dz dl
    replace HD : Hid (Blk _ (w4.heap.size) _ _) := Blk.step (by repeat (first | (with_reducible exact HD.out) | ((with_reducible apply Blk.new); focus (first | rfl | (simp; done) | (simp; omega))) | (with_reducible apply Blk.drew) | (with_reducible apply Blk.alloc) | (with_reducible apply Blk.set_) | ((with_reducible apply Blk.far); rotate_left; focus (first | (simp; done) | (simp; omega) | omega)))) hb
    obtain ⟨d0, d1, d2, d3, dz⟩ := cells4 HD.out
    have dl := Blk.lt HD.out
    clear e0 e1 e2 e3 ez el
    replace HE : Hid (Blk _ (w5.heap.size) _ _) := Blk.step (by repeat (first | (with_reducible exact HE.out) | ((with_reducible apply Blk.new); focus (first | rfl | (simp; done) | (simp; omega))) | (with_reducible apply Blk.drew) | (with_reducible apply Blk.alloc) | (with_reducible apply Blk.set_) | ((with_reducible apply Blk.far); rotate_left; focus (first | (simp; done) | (simp; omega) | omega)))) hb
    obtain ⟨e0, e1, e2, e3, ez⟩ := cells4 HE.out
    have el := Blk.lt HE.out
    clear hb c0 c1 cz cl HC T
    go_wp2_with fail
    go_ret
    exact ⟨rfl, HB.out⟩
  · have HST := Lib.hid (show streamE s = (Str.zero, 8) by rw [streamE, if_neg hm])
    clear hm
    go_wp2_with fail
    refine Calls.mono (mdlStream_any ?_ HFW.out HST.out) ?_
    · exact S.out.below (by repeat (first | (with_reducible exact Below.refl _ _) | (with_reducible exact Below.refl _ _) | (with_reducible apply Below.drew) | (with_reducible apply below_alloc) | ((with_reducible refine Below.alloc ?_ ?_ _); rotate_left; focus (first | (simp; done) | (simp; omega) | omega)) | ((with_reducible refine Below.setCell ?_ ?_ _); rotate_left; focus (first | (simp; done) | (simp; omega) | omega))))
    rintro e w3 ⟨ta, tc, rfl, os, hb⟩
    obtain ⟨a3, cap3, b3, nc3, cc3, ev, -, -⟩ := os.reads.shape
    cases ev
    replace HB : Hid (Below w.heap.size w _) := below_step (by repeat (first | (with_reducible exact HB.out) | (with_reducible exact Below.refl _ _) | (with_reducible apply Below.drew) | (with_reducible apply below_alloc) | ((with_reducible refine Below.alloc ?_ ?_ _); rotate_left; focus (first | (simp; done) | (simp; omega) | omega)) | ((with_reducible refine Below.setCell ?_ ?_ _); rotate_left; focus (first | (simp; done) | (simp; omega) | omega)))) hb
    clear hb os
    go_wp2_with fail
    go_ret
    refine ⟨rfl, ?_⟩
    repeat (first | (with_reducible exact HB.out) | (with_reducible exact Below.refl _ _) | (with_reducible apply Below.drew) | (with_reducible apply below_alloc) | ((with_reducible refine Below.alloc ?_ ?_ _); rotate_left; focus (first | (simp; done) | (simp; omega) | omega)) | ((with_reducible refine Below.setCell ?_ ?_ _); rotate_left; focus (first | (simp; done) | (simp; omega) | omega)))

theorem own : ownKnob Try.prog.godebug = none := by kernel_rfl

set_option maxRecDepth 100000 in
set_option linter.unusedVariables false in
theorem lifted (os : Os) (started : os.Started) (H : Type) (enc : TypeId × Value → H) :
    ReturnsInHanded {} Try.checked os 6 .any (Rows.modelReadsSpec.pre6 enc Try.prog Try.f6 Rows.modelReadsRow.domain false) (Rows.modelReadsSpec.post enc Try.prog Try.f6 false true false false) := by
  refine returnsInHanded_of_change_sized (C := Try.checked) own started (by kernel_rfl) Try.func6
    (ChangeSpec.witness6 (enc := enc) (C := Try.checked) false ⟨#[], #[.agg #[.slice none 0 0, .slice none 0 0], .int .i64 0, .int .i64 0, .int .i64 0], []⟩ 8 (by kernel_rfl) (by kernel_rfl) (by kernel_rfl) (by kernel_rfl)) ?_
  intro W base args ds gs before hval0 hW hcnd hsz0 hholds
  have hsz : (DataW.weightsEach Try.prog (Try.f6.params.toList ++ Rows.modelReadsSpec.plain.varTypes Try.prog) (ds ++ gs)).all (· ≤ reachBytes) = true := hsz0
  have hval : ∀ (j : Nat) t v, Try.f6.params[j]? = some t → args[j]? = some v → Value.okWide Try.prog W .any base t v := hval0
  have hW' := hW
  obtain ⟨p, q, hA0, hV, _, hfz, _⟩ := hW
  have hA : DataW.TrodAll enc Try.prog W 0 (fun _ => true) true Try.f6.params.toList args.toList ds p := hA0
  rw [Try.params6] at hA hval hsz
  obtain ⟨v0, vs0, d0, ds0, p0, q0, hargs, rfl, rfl, h0, r0⟩ := trodAll_cons hA
  obtain ⟨v1, vs1, d1, ds1, p1, q1, rfl, rfl, rfl, h1, r1⟩ := trodAll_cons r0
  obtain ⟨v2, vs2, d2, ds2, p2, q2, rfl, rfl, rfl, h2, r2⟩ := trodAll_cons r1
  obtain ⟨v3, vs3, d3, ds3, p3, q3, rfl, rfl, rfl, h3, r3⟩ := trodAll_cons r2
  obtain ⟨rfl, rfl, rfl⟩ := trodAll_nil r3
  obtain rfl : args = #[v0, v1, v2, v3] := by cases args; simp_all
  obtain ⟨rfl, _⟩ := trodVars_none hV
  have hwt : ∀ (j : Nat) (t : TypeId) (d : DataW H), (_ : List TypeId)[j]? = some t → (_ : List (DataW H))[j]? = some d → ∀ n ∈ d.weights Try.prog t, n ≤ reachBytes := fun j t d ht hd n hn => by simpa using List.all_eq_true.1 hsz n (DataW.weights_mem_each ht hd n hn)
  obtain ⟨t0, R0, F0⟩ := open_model (hval 0 _ v0 rfl rfl) h0 (hwt 0 _ _ rfl rfl) ⟨Try.underlying25, cells_mdl, Try.underlying22, cells_pls, Try.underlying23, cells_rows, Try.underlying43, cells_row, ⟨rfl, rfl⟩, ⟨rfl, rfl⟩⟩ ⟨Try.underlying84, cells_pl, Try.underlying68, cells_ents, Try.underlying29, cells_ent, Try.underlying3, cells_int, Try.underlying9, cells_str, ⟨rfl, rfl⟩, ⟨rfl, rfl⟩, ⟨rfl, rfl⟩, ⟨rfl, rfl⟩, ⟨rfl, rfl⟩, ⟨rfl, rfl⟩, ⟨rfl, rfl⟩⟩
  obtain ⟨a1, rfl, rfl, _, w1⟩ := open_int Try.underlying3 (hval 1 _ v1 rfl rfl) h1
  obtain ⟨a2, rfl, rfl, _, w2⟩ := open_int Try.underlying3 (hval 2 _ v2 rfl rfl) h2
  obtain ⟨a3, rfl, rfl, _, w3⟩ := open_int Try.underlying3 (hval 3 _ v3 rfl rfl) h3
  refine (walk a1 a2 a3 R0 F0).mono fun e W' ⟨he, hb⟩ => ?_
  subst he
  exact ⟨_, rfl, law_post hW' rfl rfl rfl Try.underlying4 (by kernel_rfl) (by kernel_rfl) hb⟩

theorem over : Rows.modelReadsRow.holds Try.pinned (OpenSpec.ofChange Rows.modelReadsSpec) :=
  OpenClaim.holds_of_wide 6 Try.f6 rfl rfl rfl rfl rfl rfl rfl ⟨rfl, rfl, rfl, rfl, rfl⟩ rfl rfl rfl rfl rfl (by kernel_rfl) Try.func6 (by kernel_rfl)
    (of_decide_eq_true (by kernel_rfl)) (by unfold Func.isWrapper; rw [if_neg (of_decide_eq_false (by kernel_rfl))]; exact ⟨rfl, rfl⟩)
    (fun os started H enc _ => lifted os started H enc)

theorem proved : Rows.ModelReadsSaid := over
#print axioms proved

end Go.Proofs.Ytblgmjbajnkcdab.ModelReads
