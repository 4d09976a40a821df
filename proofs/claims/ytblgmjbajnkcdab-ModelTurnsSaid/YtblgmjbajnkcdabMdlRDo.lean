/-
  The document's Do of models.
-/
import Derived.Test.YtblgmjbajnkcdabMdlDo
import Derived.Test.YtblgmjbajnkcdabMdlRGet
import Derived.Test.YtblgmjbajnkcdabMdlRPut
import Derived.Test.YtblgmjbajnkcdabBunK
import Derived.Deep.RegionHeld3
namespace Go.Proofs.Ytblgmjbajnkcdab
open Go.RowKit

theorem set_same {l : List Pl} {i : Nat} : l.set i (l.getD i default) = l := by
  by_cases h : i < l.length
  · rw [getD_lt h, List.set_getElem_self]
  · rw [List.set_eq_of_length_le (by omega)]

set_option maxHeartbeats 8000000 in
set_option maxRecDepth 100000 in
theorem mdlRDo_bad {v : Value} {m : Mdl} {w : World} {kind mid mt id time : Int} {ga ma : Option Addr} {gn gc mn mc : Nat} {mk mb : ByteArray} (topic who n : Int) (h : MdlR w v m) (hm : ¬ mayM m) :
    Calls Try.prog 20 #[v, .agg #[.int .u8 kind, .int .i64 mid, .slice ga gn gc, .int .i64 mt, .string mk, .string mb, .int .i64 id, .int .i64 time, .slice ma mn mc, .int .i64 topic, .int .i64 who, .int .i64 n]] w (DoEndM Mdl.zero 8 w) := by
  have S := Lib.hid h
  have HC := Lib.hid (show false = decide (mayM m) by simp [hm])
  obtain ⟨a, cap, bb, nc, cc, rfl, -, -⟩ := h.shape
  clear h hm
  go_enter Try.func20, Try.ntmps20
  go_wp2_with fail
  refine Calls.mono (refMdlMay_any ?_ HC.out) ?_
  · exact S.out.below (by repeat (first | (with_reducible exact Below.refl _ _) | (with_reducible exact Below.refl _ _) | (with_reducible apply Below.drew) | (with_reducible apply below_alloc) | ((with_reducible refine Below.alloc ?_ ?_ _); rotate_left; focus (first | (simp; done) | (simp; omega) | omega)) | ((with_reducible refine Below.setCell ?_ ?_ _); rotate_left; focus (first | (simp; done) | (simp; omega) | omega))))
  rintro e w1 ⟨rfl, hb⟩
  have HB : Hid (Below w.heap.size w _) := below_step (by repeat (first | (with_reducible exact Below.refl _ _) | (with_reducible exact Below.refl _ _) | (with_reducible apply Below.drew) | (with_reducible apply below_alloc) | ((with_reducible refine Below.alloc ?_ ?_ _); rotate_left; focus (first | (simp; done) | (simp; omega) | omega)) | ((with_reducible refine Below.setCell ?_ ?_ _); rotate_left; focus (first | (simp; done) | (simp; omega) | omega)))) hb
  have R : Blk _ (w.heap.size + 2) _ _ := Blk.step (by repeat (first | ((with_reducible apply Blk.new); focus (first | rfl | (simp; done) | (simp; omega))) | (with_reducible apply Blk.drew) | (with_reducible apply Blk.alloc) | (with_reducible apply Blk.set_) | ((with_reducible apply Blk.far); rotate_left; focus (first | (simp; done) | (simp; omega) | omega)))) hb
  obtain ⟨r0, r1, rz⟩ := cells2 R
  have rl := Blk.lt R
  have HR := Lib.hid R
  clear R
  clear hb
  go_wp2_with fail
  refine bodyPost_ret (v := .tuple #[.agg #[.slice none 0 0, .slice none 0 0], .int .i64 8]) (by simp [results, Try.results20, go_sem, r0, r1]) rfl ⟨_, _, rfl, OwnN.zero _ _, ?_⟩
  repeat (first | (with_reducible exact HB.out) | (with_reducible exact Below.refl _ _) | (with_reducible apply Below.drew) | (with_reducible apply below_alloc) | ((with_reducible refine Below.alloc ?_ ?_ _); rotate_left; focus (first | (simp; done) | (simp; omega) | omega)) | ((with_reducible refine Below.setCell ?_ ?_ _); rotate_left; focus (first | (simp; done) | (simp; omega) | omega)))

set_option maxHeartbeats 8000000 in
set_option maxRecDepth 100000 in
theorem mdlRDo_no {v : Value} {m : Mdl} {w : World} {kind mid mt id time : Int} {ga ma : Option Addr} {gn gc mn mc : Nat} {mk mb : ByteArray} (topic who n : Int) (h : MdlR w v m) (hm : mayM m) (hr : ¬ rightD kind topic who n) :
    Calls Try.prog 20 #[v, .agg #[.int .u8 kind, .int .i64 mid, .slice ga gn gc, .int .i64 mt, .string mk, .string mb, .int .i64 id, .int .i64 time, .slice ma mn mc, .int .i64 topic, .int .i64 who, .int .i64 n]] w (DoEndM Mdl.zero 2 w) := by
  have S := Lib.hid h
  have HC := Lib.hid (show true = decide (mayM m) by simp [hm])
  obtain ⟨a, cap, bb, nc, cc, rfl, -, -⟩ := h.shape
  have hc : ((kind != 4) = true ∧ (kind != 5) = true ∧ (kind != 6) = true) ∨ (((kind = 5 ∨ kind = 6) ∨ kind = 4) ∧ (¬ (0 ≤ topic ∧ topic < 4) ∨ ((0 ≤ topic ∧ topic < 4) ∧ ¬ (0 ≤ n ∧ n < 1073741825)))) ∨ (kind = 4 ∧ (0 ≤ topic ∧ topic < 4) ∧ (0 ≤ n ∧ n < 1073741825) ∧ ¬ (0 ≤ who ∧ who < 8)) := by
    unfold rightD at hr
    simp only [bne_iff_ne, ne_eq]
    omega
  clear h hm hr
  rcases hc with ⟨k4, k5, k6⟩ | ⟨((rfl | rfl) | rfl), (h3 | ⟨h3, h4⟩)⟩ | ⟨rfl, h3, h4, h5⟩
  · skip
    go_enter Try.func20, Try.ntmps20
    go_wp2_with fail
    refine Calls.mono (refMdlMay_any ?_ HC.out) ?_
    · exact S.out.below (by repeat (first | (with_reducible exact Below.refl _ _) | (with_reducible exact Below.refl _ _) | (with_reducible apply Below.drew) | (with_reducible apply below_alloc) | ((with_reducible refine Below.alloc ?_ ?_ _); rotate_left; focus (first | (simp; done) | (simp; omega) | omega)) | ((with_reducible refine Below.setCell ?_ ?_ _); rotate_left; focus (first | (simp; done) | (simp; omega) | omega))))
    rintro e w1 ⟨rfl, hb⟩
    have HB : Hid (Below w.heap.size w _) := below_step (by repeat (first | (with_reducible exact Below.refl _ _) | (with_reducible exact Below.refl _ _) | (with_reducible apply Below.drew) | (with_reducible apply below_alloc) | ((with_reducible refine Below.alloc ?_ ?_ _); rotate_left; focus (first | (simp; done) | (simp; omega) | omega)) | ((with_reducible refine Below.setCell ?_ ?_ _); rotate_left; focus (first | (simp; done) | (simp; omega) | omega)))) hb
    have HC2 : Hid (Blk w1 (w.heap.size + 1) 47 _) := Blk.step (by repeat (first | (with_reducible exact Blk.new rfl) | ((with_reducible apply Blk.new); focus (first | rfl | (simp; done) | (simp; omega))) | (with_reducible apply Blk.drew) | (with_reducible apply Blk.alloc) | (with_reducible apply Blk.set_) | ((with_reducible apply Blk.far); rotate_left; focus (first | (simp; done) | (simp; omega) | omega)))) hb
    have R : Blk _ (w.heap.size + 2) _ _ := Blk.step (by repeat (first | ((with_reducible apply Blk.new); focus (first | rfl | (simp; done) | (simp; omega))) | (with_reducible apply Blk.drew) | (with_reducible apply Blk.alloc) | (with_reducible apply Blk.set_) | ((with_reducible apply Blk.far); rotate_left; focus (first | (simp; done) | (simp; omega) | omega)))) hb
    obtain ⟨r0, r1, rz⟩ := cells2 R
    have rl := Blk.lt R
    have HR := Lib.hid R
    clear R
    obtain ⟨⟨⟨d0, -, -, -⟩, -, -, d9, d10, d11⟩, dz⟩ := cells12 HC2.out
    clear hb
    go_wp2_with fail
    refine bodyPost_ret (v := .tuple #[.agg #[.slice none 0 0, .slice none 0 0], .int .i64 2]) (by simp [results, Try.results20, go_sem, r0, r1]) rfl ⟨_, _, rfl, OwnN.zero _ _, ?_⟩
    repeat (first | (with_reducible exact HB.out) | (with_reducible exact Below.refl _ _) | (with_reducible apply Below.drew) | (with_reducible apply below_alloc) | ((with_reducible refine Below.alloc ?_ ?_ _); rotate_left; focus (first | (simp; done) | (simp; omega) | omega)) | ((with_reducible refine Below.setCell ?_ ?_ _); rotate_left; focus (first | (simp; done) | (simp; omega) | omega)))
  · have H3 := Lib.hid h3; clear h3
    go_enter Try.func20, Try.ntmps20
    go_wp2_with fail
    refine Calls.mono (refMdlMay_any ?_ HC.out) ?_
    · exact S.out.below (by repeat (first | (with_reducible exact Below.refl _ _) | (with_reducible exact Below.refl _ _) | (with_reducible apply Below.drew) | (with_reducible apply below_alloc) | ((with_reducible refine Below.alloc ?_ ?_ _); rotate_left; focus (first | (simp; done) | (simp; omega) | omega)) | ((with_reducible refine Below.setCell ?_ ?_ _); rotate_left; focus (first | (simp; done) | (simp; omega) | omega))))
    rintro e w1 ⟨rfl, hb⟩
    have HB : Hid (Below w.heap.size w _) := below_step (by repeat (first | (with_reducible exact Below.refl _ _) | (with_reducible exact Below.refl _ _) | (with_reducible apply Below.drew) | (with_reducible apply below_alloc) | ((with_reducible refine Below.alloc ?_ ?_ _); rotate_left; focus (first | (simp; done) | (simp; omega) | omega)) | ((with_reducible refine Below.setCell ?_ ?_ _); rotate_left; focus (first | (simp; done) | (simp; omega) | omega)))) hb
    have HC2 : Hid (Blk w1 (w.heap.size + 1) 47 _) := Blk.step (by repeat (first | (with_reducible exact Blk.new rfl) | ((with_reducible apply Blk.new); focus (first | rfl | (simp; done) | (simp; omega))) | (with_reducible apply Blk.drew) | (with_reducible apply Blk.alloc) | (with_reducible apply Blk.set_) | ((with_reducible apply Blk.far); rotate_left; focus (first | (simp; done) | (simp; omega) | omega)))) hb
    have R : Blk _ (w.heap.size + 2) _ _ := Blk.step (by repeat (first | ((with_reducible apply Blk.new); focus (first | rfl | (simp; done) | (simp; omega))) | (with_reducible apply Blk.drew) | (with_reducible apply Blk.alloc) | (with_reducible apply Blk.set_) | ((with_reducible apply Blk.far); rotate_left; focus (first | (simp; done) | (simp; omega) | omega)))) hb
    obtain ⟨r0, r1, rz⟩ := cells2 R
    have rl := Blk.lt R
    have HR := Lib.hid R
    clear R
    obtain ⟨⟨⟨d0, -, -, -⟩, -, -, d9, d10, d11⟩, dz⟩ := cells12 HC2.out
    clear hb
    go_wp2_with fail
    refine Calls.mono (refIn_any topic 4 (z := false) (by simp; have := H3.out; omega)) ?_
    rintro e w9 ⟨rfl, rfl⟩
    go_wp2_with fail
    refine bodyPost_ret (v := .tuple #[.agg #[.slice none 0 0, .slice none 0 0], .int .i64 2]) (by simp [results, Try.results20, go_sem, r0, r1]) rfl ⟨_, _, rfl, OwnN.zero _ _, ?_⟩
    repeat (first | (with_reducible exact HB.out) | (with_reducible exact Below.refl _ _) | (with_reducible apply Below.drew) | (with_reducible apply below_alloc) | ((with_reducible refine Below.alloc ?_ ?_ _); rotate_left; focus (first | (simp; done) | (simp; omega) | omega)) | ((with_reducible refine Below.setCell ?_ ?_ _); rotate_left; focus (first | (simp; done) | (simp; omega) | omega)))
  · have H3 := Lib.hid h3; clear h3; have H4 := Lib.hid h4; clear h4
    go_enter Try.func20, Try.ntmps20
    go_wp2_with fail
    refine Calls.mono (refMdlMay_any ?_ HC.out) ?_
    · exact S.out.below (by repeat (first | (with_reducible exact Below.refl _ _) | (with_reducible exact Below.refl _ _) | (with_reducible apply Below.drew) | (with_reducible apply below_alloc) | ((with_reducible refine Below.alloc ?_ ?_ _); rotate_left; focus (first | (simp; done) | (simp; omega) | omega)) | ((with_reducible refine Below.setCell ?_ ?_ _); rotate_left; focus (first | (simp; done) | (simp; omega) | omega))))
    rintro e w1 ⟨rfl, hb⟩
    have HB : Hid (Below w.heap.size w _) := below_step (by repeat (first | (with_reducible exact Below.refl _ _) | (with_reducible exact Below.refl _ _) | (with_reducible apply Below.drew) | (with_reducible apply below_alloc) | ((with_reducible refine Below.alloc ?_ ?_ _); rotate_left; focus (first | (simp; done) | (simp; omega) | omega)) | ((with_reducible refine Below.setCell ?_ ?_ _); rotate_left; focus (first | (simp; done) | (simp; omega) | omega)))) hb
    have HC2 : Hid (Blk w1 (w.heap.size + 1) 47 _) := Blk.step (by repeat (first | (with_reducible exact Blk.new rfl) | ((with_reducible apply Blk.new); focus (first | rfl | (simp; done) | (simp; omega))) | (with_reducible apply Blk.drew) | (with_reducible apply Blk.alloc) | (with_reducible apply Blk.set_) | ((with_reducible apply Blk.far); rotate_left; focus (first | (simp; done) | (simp; omega) | omega)))) hb
    have R : Blk _ (w.heap.size + 2) _ _ := Blk.step (by repeat (first | ((with_reducible apply Blk.new); focus (first | rfl | (simp; done) | (simp; omega))) | (with_reducible apply Blk.drew) | (with_reducible apply Blk.alloc) | (with_reducible apply Blk.set_) | ((with_reducible apply Blk.far); rotate_left; focus (first | (simp; done) | (simp; omega) | omega)))) hb
    obtain ⟨r0, r1, rz⟩ := cells2 R
    have rl := Blk.lt R
    have HR := Lib.hid R
    clear R
    obtain ⟨⟨⟨d0, -, -, -⟩, -, -, d9, d10, d11⟩, dz⟩ := cells12 HC2.out
    clear hb
    go_wp2_with fail
    refine Calls.mono (refIn_any topic 4 (z := true) (by simp; have := H3.out; omega)) ?_
    rintro e w9 ⟨rfl, rfl⟩
    go_wp2_with fail
    refine Calls.mono (refIn_any n 1073741825 (z := false) (by simp; have := H4.out; omega)) ?_
    rintro e w9 ⟨rfl, rfl⟩
    go_wp2_with fail
    refine bodyPost_ret (v := .tuple #[.agg #[.slice none 0 0, .slice none 0 0], .int .i64 2]) (by simp [results, Try.results20, go_sem, r0, r1]) rfl ⟨_, _, rfl, OwnN.zero _ _, ?_⟩
    repeat (first | (with_reducible exact HB.out) | (with_reducible exact Below.refl _ _) | (with_reducible apply Below.drew) | (with_reducible apply below_alloc) | ((with_reducible refine Below.alloc ?_ ?_ _); rotate_left; focus (first | (simp; done) | (simp; omega) | omega)) | ((with_reducible refine Below.setCell ?_ ?_ _); rotate_left; focus (first | (simp; done) | (simp; omega) | omega)))
  · have H3 := Lib.hid h3; clear h3
    go_enter Try.func20, Try.ntmps20
    go_wp2_with fail
    refine Calls.mono (refMdlMay_any ?_ HC.out) ?_
    · exact S.out.below (by repeat (first | (with_reducible exact Below.refl _ _) | (with_reducible exact Below.refl _ _) | (with_reducible apply Below.drew) | (with_reducible apply below_alloc) | ((with_reducible refine Below.alloc ?_ ?_ _); rotate_left; focus (first | (simp; done) | (simp; omega) | omega)) | ((with_reducible refine Below.setCell ?_ ?_ _); rotate_left; focus (first | (simp; done) | (simp; omega) | omega))))
    rintro e w1 ⟨rfl, hb⟩
    have HB : Hid (Below w.heap.size w _) := below_step (by repeat (first | (with_reducible exact Below.refl _ _) | (with_reducible exact Below.refl _ _) | (with_reducible apply Below.drew) | (with_reducible apply below_alloc) | ((with_reducible refine Below.alloc ?_ ?_ _); rotate_left; focus (first | (simp; done) | (simp; omega) | omega)) | ((with_reducible refine Below.setCell ?_ ?_ _); rotate_left; focus (first | (simp; done) | (simp; omega) | omega)))) hb
    have HC2 : Hid (Blk w1 (w.heap.size + 1) 47 _) := Blk.step (by repeat (first | (with_reducible exact Blk.new rfl) | ((with_reducible apply Blk.new); focus (first | rfl | (simp; done) | (simp; omega))) | (with_reducible apply Blk.drew) | (with_reducible apply Blk.alloc) | (with_reducible apply Blk.set_) | ((with_reducible apply Blk.far); rotate_left; focus (first | (simp; done) | (simp; omega) | omega)))) hb
    have R : Blk _ (w.heap.size + 2) _ _ := Blk.step (by repeat (first | ((with_reducible apply Blk.new); focus (first | rfl | (simp; done) | (simp; omega))) | (with_reducible apply Blk.drew) | (with_reducible apply Blk.alloc) | (with_reducible apply Blk.set_) | ((with_reducible apply Blk.far); rotate_left; focus (first | (simp; done) | (simp; omega) | omega)))) hb
    obtain ⟨r0, r1, rz⟩ := cells2 R
    have rl := Blk.lt R
    have HR := Lib.hid R
    clear R
    obtain ⟨⟨⟨d0, -, -, -⟩, -, -, d9, d10, d11⟩, dz⟩ := cells12 HC2.out
    clear hb
    go_wp2_with fail
    refine Calls.mono (refIn_any topic 4 (z := false) (by simp; have := H3.out; omega)) ?_
    rintro e w9 ⟨rfl, rfl⟩
    go_wp2_with fail
    refine bodyPost_ret (v := .tuple #[.agg #[.slice none 0 0, .slice none 0 0], .int .i64 2]) (by simp [results, Try.results20, go_sem, r0, r1]) rfl ⟨_, _, rfl, OwnN.zero _ _, ?_⟩
    repeat (first | (with_reducible exact HB.out) | (with_reducible exact Below.refl _ _) | (with_reducible apply Below.drew) | (with_reducible apply below_alloc) | ((with_reducible refine Below.alloc ?_ ?_ _); rotate_left; focus (first | (simp; done) | (simp; omega) | omega)) | ((with_reducible refine Below.setCell ?_ ?_ _); rotate_left; focus (first | (simp; done) | (simp; omega) | omega)))
  · have H3 := Lib.hid h3; clear h3; have H4 := Lib.hid h4; clear h4
    go_enter Try.func20, Try.ntmps20
    go_wp2_with fail
    refine Calls.mono (refMdlMay_any ?_ HC.out) ?_
    · exact S.out.below (by repeat (first | (with_reducible exact Below.refl _ _) | (with_reducible exact Below.refl _ _) | (with_reducible apply Below.drew) | (with_reducible apply below_alloc) | ((with_reducible refine Below.alloc ?_ ?_ _); rotate_left; focus (first | (simp; done) | (simp; omega) | omega)) | ((with_reducible refine Below.setCell ?_ ?_ _); rotate_left; focus (first | (simp; done) | (simp; omega) | omega))))
    rintro e w1 ⟨rfl, hb⟩
    have HB : Hid (Below w.heap.size w _) := below_step (by repeat (first | (with_reducible exact Below.refl _ _) | (with_reducible exact Below.refl _ _) | (with_reducible apply Below.drew) | (with_reducible apply below_alloc) | ((with_reducible refine Below.alloc ?_ ?_ _); rotate_left; focus (first | (simp; done) | (simp; omega) | omega)) | ((with_reducible refine Below.setCell ?_ ?_ _); rotate_left; focus (first | (simp; done) | (simp; omega) | omega)))) hb
    have HC2 : Hid (Blk w1 (w.heap.size + 1) 47 _) := Blk.step (by repeat (first | (with_reducible exact Blk.new rfl) | ((with_reducible apply Blk.new); focus (first | rfl | (simp; done) | (simp; omega))) | (with_reducible apply Blk.drew) | (with_reducible apply Blk.alloc) | (with_reducible apply Blk.set_) | ((with_reducible apply Blk.far); rotate_left; focus (first | (simp; done) | (simp; omega) | omega)))) hb
    have R : Blk _ (w.heap.size + 2) _ _ := Blk.step (by repeat (first | ((with_reducible apply Blk.new); focus (first | rfl | (simp; done) | (simp; omega))) | (with_reducible apply Blk.drew) | (with_reducible apply Blk.alloc) | (with_reducible apply Blk.set_) | ((with_reducible apply Blk.far); rotate_left; focus (first | (simp; done) | (simp; omega) | omega)))) hb
    obtain ⟨r0, r1, rz⟩ := cells2 R
    have rl := Blk.lt R
    have HR := Lib.hid R
    clear R
    obtain ⟨⟨⟨d0, -, -, -⟩, -, -, d9, d10, d11⟩, dz⟩ := cells12 HC2.out
    clear hb
    go_wp2_with fail
    refine Calls.mono (refIn_any topic 4 (z := true) (by simp; have := H3.out; omega)) ?_
    rintro e w9 ⟨rfl, rfl⟩
    go_wp2_with fail
    refine Calls.mono (refIn_any n 1073741825 (z := false) (by simp; have := H4.out; omega)) ?_
    rintro e w9 ⟨rfl, rfl⟩
    go_wp2_with fail
    refine bodyPost_ret (v := .tuple #[.agg #[.slice none 0 0, .slice none 0 0], .int .i64 2]) (by simp [results, Try.results20, go_sem, r0, r1]) rfl ⟨_, _, rfl, OwnN.zero _ _, ?_⟩
    repeat (first | (with_reducible exact HB.out) | (with_reducible exact Below.refl _ _) | (with_reducible apply Below.drew) | (with_reducible apply below_alloc) | ((with_reducible refine Below.alloc ?_ ?_ _); rotate_left; focus (first | (simp; done) | (simp; omega) | omega)) | ((with_reducible refine Below.setCell ?_ ?_ _); rotate_left; focus (first | (simp; done) | (simp; omega) | omega)))
  · have H3 := Lib.hid h3; clear h3
    go_enter Try.func20, Try.ntmps20
    go_wp2_with fail
    refine Calls.mono (refMdlMay_any ?_ HC.out) ?_
    · exact S.out.below (by repeat (first | (with_reducible exact Below.refl _ _) | (with_reducible exact Below.refl _ _) | (with_reducible apply Below.drew) | (with_reducible apply below_alloc) | ((with_reducible refine Below.alloc ?_ ?_ _); rotate_left; focus (first | (simp; done) | (simp; omega) | omega)) | ((with_reducible refine Below.setCell ?_ ?_ _); rotate_left; focus (first | (simp; done) | (simp; omega) | omega))))
    rintro e w1 ⟨rfl, hb⟩
    have HB : Hid (Below w.heap.size w _) := below_step (by repeat (first | (with_reducible exact Below.refl _ _) | (with_reducible exact Below.refl _ _) | (with_reducible apply Below.drew) | (with_reducible apply below_alloc) | ((with_reducible refine Below.alloc ?_ ?_ _); rotate_left; focus (first | (simp; done) | (simp; omega) | omega)) | ((with_reducible refine Below.setCell ?_ ?_ _); rotate_left; focus (first | (simp; done) | (simp; omega) | omega)))) hb
    have HC2 : Hid (Blk w1 (w.heap.size + 1) 47 _) := Blk.step (by repeat (first | (with_reducible exact Blk.new rfl) | ((with_reducible apply Blk.new); focus (first | rfl | (simp; done) | (simp; omega))) | (with_reducible apply Blk.drew) | (with_reducible apply Blk.alloc) | (with_reducible apply Blk.set_) | ((with_reducible apply Blk.far); rotate_left; focus (first | (simp; done) | (simp; omega) | omega)))) hb
    have R : Blk _ (w.heap.size + 2) _ _ := Blk.step (by repeat (first | ((with_reducible apply Blk.new); focus (first | rfl | (simp; done) | (simp; omega))) | (with_reducible apply Blk.drew) | (with_reducible apply Blk.alloc) | (with_reducible apply Blk.set_) | ((with_reducible apply Blk.far); rotate_left; focus (first | (simp; done) | (simp; omega) | omega)))) hb
    obtain ⟨r0, r1, rz⟩ := cells2 R
    have rl := Blk.lt R
    have HR := Lib.hid R
    clear R
    obtain ⟨⟨⟨d0, -, -, -⟩, -, -, d9, d10, d11⟩, dz⟩ := cells12 HC2.out
    clear hb
    go_wp2_with fail
    refine Calls.mono (refIn_any topic 4 (z := false) (by simp; have := H3.out; omega)) ?_
    rintro e w9 ⟨rfl, rfl⟩
    go_wp2_with fail
    refine bodyPost_ret (v := .tuple #[.agg #[.slice none 0 0, .slice none 0 0], .int .i64 2]) (by simp [results, Try.results20, go_sem, r0, r1]) rfl ⟨_, _, rfl, OwnN.zero _ _, ?_⟩
    repeat (first | (with_reducible exact HB.out) | (with_reducible exact Below.refl _ _) | (with_reducible apply Below.drew) | (with_reducible apply below_alloc) | ((with_reducible refine Below.alloc ?_ ?_ _); rotate_left; focus (first | (simp; done) | (simp; omega) | omega)) | ((with_reducible refine Below.setCell ?_ ?_ _); rotate_left; focus (first | (simp; done) | (simp; omega) | omega)))
  · have H3 := Lib.hid h3; clear h3; have H4 := Lib.hid h4; clear h4
    go_enter Try.func20, Try.ntmps20
    go_wp2_with fail
    refine Calls.mono (refMdlMay_any ?_ HC.out) ?_
    · exact S.out.below (by repeat (first | (with_reducible exact Below.refl _ _) | (with_reducible exact Below.refl _ _) | (with_reducible apply Below.drew) | (with_reducible apply below_alloc) | ((with_reducible refine Below.alloc ?_ ?_ _); rotate_left; focus (first | (simp; done) | (simp; omega) | omega)) | ((with_reducible refine Below.setCell ?_ ?_ _); rotate_left; focus (first | (simp; done) | (simp; omega) | omega))))
    rintro e w1 ⟨rfl, hb⟩
    have HB : Hid (Below w.heap.size w _) := below_step (by repeat (first | (with_reducible exact Below.refl _ _) | (with_reducible exact Below.refl _ _) | (with_reducible apply Below.drew) | (with_reducible apply below_alloc) | ((with_reducible refine Below.alloc ?_ ?_ _); rotate_left; focus (first | (simp; done) | (simp; omega) | omega)) | ((with_reducible refine Below.setCell ?_ ?_ _); rotate_left; focus (first | (simp; done) | (simp; omega) | omega)))) hb
    have HC2 : Hid (Blk w1 (w.heap.size + 1) 47 _) := Blk.step (by repeat (first | (with_reducible exact Blk.new rfl) | ((with_reducible apply Blk.new); focus (first | rfl | (simp; done) | (simp; omega))) | (with_reducible apply Blk.drew) | (with_reducible apply Blk.alloc) | (with_reducible apply Blk.set_) | ((with_reducible apply Blk.far); rotate_left; focus (first | (simp; done) | (simp; omega) | omega)))) hb
    have R : Blk _ (w.heap.size + 2) _ _ := Blk.step (by repeat (first | ((with_reducible apply Blk.new); focus (first | rfl | (simp; done) | (simp; omega))) | (with_reducible apply Blk.drew) | (with_reducible apply Blk.alloc) | (with_reducible apply Blk.set_) | ((with_reducible apply Blk.far); rotate_left; focus (first | (simp; done) | (simp; omega) | omega)))) hb
    obtain ⟨r0, r1, rz⟩ := cells2 R
    have rl := Blk.lt R
    have HR := Lib.hid R
    clear R
    obtain ⟨⟨⟨d0, -, -, -⟩, -, -, d9, d10, d11⟩, dz⟩ := cells12 HC2.out
    clear hb
    go_wp2_with fail
    refine Calls.mono (refIn_any topic 4 (z := true) (by simp; have := H3.out; omega)) ?_
    rintro e w9 ⟨rfl, rfl⟩
    go_wp2_with fail
    refine Calls.mono (refIn_any n 1073741825 (z := false) (by simp; have := H4.out; omega)) ?_
    rintro e w9 ⟨rfl, rfl⟩
    go_wp2_with fail
    refine bodyPost_ret (v := .tuple #[.agg #[.slice none 0 0, .slice none 0 0], .int .i64 2]) (by simp [results, Try.results20, go_sem, r0, r1]) rfl ⟨_, _, rfl, OwnN.zero _ _, ?_⟩
    repeat (first | (with_reducible exact HB.out) | (with_reducible exact Below.refl _ _) | (with_reducible apply Below.drew) | (with_reducible apply below_alloc) | ((with_reducible refine Below.alloc ?_ ?_ _); rotate_left; focus (first | (simp; done) | (simp; omega) | omega)) | ((with_reducible refine Below.setCell ?_ ?_ _); rotate_left; focus (first | (simp; done) | (simp; omega) | omega)))
  · have H3 := Lib.hid h3; clear h3; have H4 := Lib.hid h4; clear h4; have H5 := Lib.hid h5; clear h5
    go_enter Try.func20, Try.ntmps20
    go_wp2_with fail
    refine Calls.mono (refMdlMay_any ?_ HC.out) ?_
    · exact S.out.below (by repeat (first | (with_reducible exact Below.refl _ _) | (with_reducible exact Below.refl _ _) | (with_reducible apply Below.drew) | (with_reducible apply below_alloc) | ((with_reducible refine Below.alloc ?_ ?_ _); rotate_left; focus (first | (simp; done) | (simp; omega) | omega)) | ((with_reducible refine Below.setCell ?_ ?_ _); rotate_left; focus (first | (simp; done) | (simp; omega) | omega))))
    rintro e w1 ⟨rfl, hb⟩
    have HB : Hid (Below w.heap.size w _) := below_step (by repeat (first | (with_reducible exact Below.refl _ _) | (with_reducible exact Below.refl _ _) | (with_reducible apply Below.drew) | (with_reducible apply below_alloc) | ((with_reducible refine Below.alloc ?_ ?_ _); rotate_left; focus (first | (simp; done) | (simp; omega) | omega)) | ((with_reducible refine Below.setCell ?_ ?_ _); rotate_left; focus (first | (simp; done) | (simp; omega) | omega)))) hb
    have HC2 : Hid (Blk w1 (w.heap.size + 1) 47 _) := Blk.step (by repeat (first | (with_reducible exact Blk.new rfl) | ((with_reducible apply Blk.new); focus (first | rfl | (simp; done) | (simp; omega))) | (with_reducible apply Blk.drew) | (with_reducible apply Blk.alloc) | (with_reducible apply Blk.set_) | ((with_reducible apply Blk.far); rotate_left; focus (first | (simp; done) | (simp; omega) | omega)))) hb
    have R : Blk _ (w.heap.size + 2) _ _ := Blk.step (by repeat (first | ((with_reducible apply Blk.new); focus (first | rfl | (simp; done) | (simp; omega))) | (with_reducible apply Blk.drew) | (with_reducible apply Blk.alloc) | (with_reducible apply Blk.set_) | ((with_reducible apply Blk.far); rotate_left; focus (first | (simp; done) | (simp; omega) | omega)))) hb
    obtain ⟨r0, r1, rz⟩ := cells2 R
    have rl := Blk.lt R
    have HR := Lib.hid R
    clear R
    obtain ⟨⟨⟨d0, -, -, -⟩, -, -, d9, d10, d11⟩, dz⟩ := cells12 HC2.out
    clear hb
    go_wp2_with fail
    refine Calls.mono (refIn_any topic 4 (z := true) (by simp; have := H3.out; omega)) ?_
    rintro e w9 ⟨rfl, rfl⟩
    go_wp2_with fail
    refine Calls.mono (refIn_any n 1073741825 (z := true) (by simp; have := H4.out; omega)) ?_
    rintro e w9 ⟨rfl, rfl⟩
    go_wp2_with fail
    refine Calls.mono (refIn_any who 8 (z := false) (by simp; have := H5.out; omega)) ?_
    rintro e w9 ⟨rfl, rfl⟩
    go_wp2_with fail
    refine bodyPost_ret (v := .tuple #[.agg #[.slice none 0 0, .slice none 0 0], .int .i64 2]) (by simp [results, Try.results20, go_sem, r0, r1]) rfl ⟨_, _, rfl, OwnN.zero _ _, ?_⟩
    repeat (first | (with_reducible exact HB.out) | (with_reducible exact Below.refl _ _) | (with_reducible apply Below.drew) | (with_reducible apply below_alloc) | ((with_reducible refine Below.alloc ?_ ?_ _); rotate_left; focus (first | (simp; done) | (simp; omega) | omega)) | ((with_reducible refine Below.setCell ?_ ?_ _); rotate_left; focus (first | (simp; done) | (simp; omega) | omega)))

set_option maxHeartbeats 8000000 in
set_option maxRecDepth 100000 in
theorem mdlRDo_ret {v : Value} {m : Mdl} {w : World} {mid mt id time : Int} {ga ma : Option Addr} {gn gc mn mc : Nat} {mk mb : ByteArray} (i : Nat) (who n : Int) (h : MdlR w v m) (hm : mayM m) (hi : i < 4) (e2 : 0 ≤ n) (e3 : n ≤ 1073741824) :
    Calls Try.prog 20 #[v, .agg #[.int .u8 5, .int .i64 mid, .slice ga gn gc, .int .i64 mt, .string mk, .string mb, .int .i64 id, .int .i64 time, .slice ma mn mc, .int .i64 (i : Int), .int .i64 who, .int .i64 n]] w (DoEndM ⟨m.tops.set i ⟨(plN m (i : Int)).all, max (plN m (i : Int)).base (min n ((plN m (i : Int)).all.length : Int)), (plN m (i : Int)).mark⟩, m.coms⟩ 0 w) := by
  have S := Lib.hid h
  have HC := Lib.hid (show true = decide (mayM m) by simp [hm])
  obtain ⟨a, cap, bb, nc, cc, rfl, hT, -⟩ := h.shape
  have h4 := hm.1.1
  have HFT := Lib.hid (fit_of_may hm)
  have HOK := Lib.hid hm.2.1
  have HI := Lib.hid (show i < m.tops.length by omega)
  have h1 : (i : Int) < 4 := by omega
  have h0 : 0 ≤ (i : Int) := by omega
  obtain ⟨⟨-, hcap, hmx⟩, g, off, rfl, hat⟩ := MdlR.pl hT (i := i) h0 (by omega)
  rw [show m.tops.getD (i : Int).toNat default = plN m i from rfl] at hat
  obtain ⟨p, hp⟩ : ∃ p, p = plN m (i : Int) := ⟨_, rfl⟩
  have HPN := Lib.hid (show p = m.tops.getD i default by rw [hp, plN, Int.toNat_natCast])
  have HSP := Lib.hid (show shapedP p by rw [hp]; exact mayM_shaped hm _ (plN_mem hm h0 h1))
  rw [← hp] at hat ⊢
  simp only [Int.toNat_natCast] at hat
  have HAT := Lib.hid hat
  have hgw : g < w.heap.size := World.block_lt_of_cell? w _ hat.choose_spec.choose_spec.1.1.1
  obtain ⟨nt, hnt⟩ : ∃ nt, nt = m.tops.length := ⟨_, rfl⟩
  have HNT := Lib.hid hnt
  rw [← hnt] at S h4 hcap ⊢
  subst h4
  unfold maxLen at hmx
  obtain ⟨an, han⟩ : ∃ an, an = p.all.length := ⟨_, rfl⟩
  have HAN := Lib.hid han
  rw [← han]
  have ha6 : an ≤ 600 := by rw [han]; exact HSP.out.2.1
  obtain ⟨n', hn'⟩ : ∃ n', n' = min n (an : Int) := ⟨_, rfl⟩
  have HN' := Lib.hid hn'
  rw [← hn']
  clear h hm hi hp hnt han hn' hat hT
  go_enter Try.func20, Try.ntmps20
  go_wp2_with fail
  refine Calls.mono (refMdlMay_any ?_ HC.out) ?_
  · exact S.out.below (by repeat (first | (with_reducible exact Below.refl _ _) | (with_reducible exact Below.refl _ _) | (with_reducible apply Below.drew) | (with_reducible apply below_alloc) | ((with_reducible refine Below.alloc ?_ ?_ _); rotate_left; focus (first | (simp; done) | (simp; omega) | omega)) | ((with_reducible refine Below.setCell ?_ ?_ _); rotate_left; focus (first | (simp; done) | (simp; omega) | omega))))
  rintro e w1 ⟨rfl, hb⟩
  have HB : Hid (Below w.heap.size w _) := below_step (by repeat (first | (with_reducible exact Below.refl _ _) | (with_reducible exact Below.refl _ _) | (with_reducible apply Below.drew) | (with_reducible apply below_alloc) | ((with_reducible refine Below.alloc ?_ ?_ _); rotate_left; focus (first | (simp; done) | (simp; omega) | omega)) | ((with_reducible refine Below.setCell ?_ ?_ _); rotate_left; focus (first | (simp; done) | (simp; omega) | omega)))) hb
  have P : Blk _ (w.heap.size) _ _ := Blk.step (by repeat (first | ((with_reducible apply Blk.new); focus (first | rfl | (simp; done) | (simp; omega))) | (with_reducible apply Blk.drew) | (with_reducible apply Blk.alloc) | (with_reducible apply Blk.set_) | ((with_reducible apply Blk.far); rotate_left; focus (first | (simp; done) | (simp; omega) | omega)))) hb
  obtain ⟨p0, p1, pz⟩ := cells2 P
  have pl := Blk.lt P
  have HP := Lib.hid P
  clear P
  have HC1 : Hid (Blk w1 (w.heap.size + 1) 47 [.int .u8 5, .int .i64 mid, .slice ga gn gc, .int .i64 mt, .string mk, .string mb, .int .i64 id, .int .i64 time, .slice ma mn mc, .int .i64 (i : Int), .int .i64 who, .int .i64 n]) := Blk.step (by repeat (first | (with_reducible exact Blk.new rfl) | ((with_reducible apply Blk.new); focus (first | rfl | (simp; done) | (simp; omega))) | (with_reducible apply Blk.drew) | (with_reducible apply Blk.alloc) | (with_reducible apply Blk.set_) | ((with_reducible apply Blk.far); rotate_left; focus (first | (simp; done) | (simp; omega) | omega)))) hb
  have R : Blk _ (w.heap.size + 2) _ _ := Blk.step (by repeat (first | ((with_reducible apply Blk.new); focus (first | rfl | (simp; done) | (simp; omega))) | (with_reducible apply Blk.drew) | (with_reducible apply Blk.alloc) | (with_reducible apply Blk.set_) | ((with_reducible apply Blk.far); rotate_left; focus (first | (simp; done) | (simp; omega) | omega)))) hb
  obtain ⟨r0, r1, rz⟩ := cells2 R
  have rl := Blk.lt R
  have HR := Lib.hid R
  clear R
  obtain ⟨⟨⟨d0, -, -, -⟩, -, -, d9, d10, d11⟩, dz⟩ := cells12 HC1.out
  have cl := HC1.out.lt
  clear hb
  go_wp2_with fail
  refine Calls.mono (refIn_any (i : Int) 4 (z := true) (by simp; omega)) ?_
  rintro e w9 ⟨rfl, rfl⟩
  go_wp2_with fail
  refine Calls.mono (refIn_any n 1073741825 (z := true) (by simp; omega)) ?_
  rintro e w9 ⟨rfl, rfl⟩
  go_wp2_with fail
  refine Calls.mono (mdlRTwin_any (m := m) ?_ HFT.out) ?_
  · exact S.out.below (by repeat (first | (with_reducible exact HB.out) | (with_reducible exact Below.refl _ _) | (with_reducible apply Below.drew) | (with_reducible apply below_alloc) | ((with_reducible refine Below.alloc ?_ ?_ _); rotate_left; focus (first | (simp; done) | (simp; omega) | omega)) | ((with_reducible refine Below.setCell ?_ ?_ _); rotate_left; focus (first | (simp; done) | (simp; omega) | omega))))
  rintro e w2 ⟨ta, tc, rfl, os, hb⟩
  obtain ⟨a3, cap3, b3, nc3, cc3, ev, -, -⟩ := os.reads.shape
  cases ev
  have e4 : m.tops.length = 4 := HNT.out.symm
  rw [e4] at os ⊢
  have hw1 : w.heap.size + 2 < w9.heap.size := rl
  have oc := (show OwnC w2 w9.heap.size (.slice b3 nc3 cc3) m.coms from by obtain ⟨_, _, ev, _, h2⟩ := os; cases ev; exact OwnRows.le h2 (by simp))
  have op := (show OwnP w2 w9.heap.size (.slice a3 4 cap3) m.tops from by obtain ⟨_, _, ev, h2, _⟩ := os; cases ev; exact h2.le (by simp))
  have HB2 : Hid (Below w.heap.size w w2) := below_step (by repeat (first | (with_reducible exact HB.out) | (with_reducible exact Below.refl _ _) | (with_reducible apply Below.drew) | (with_reducible apply below_alloc) | ((with_reducible refine Below.alloc ?_ ?_ _); rotate_left; focus (first | (simp; done) | (simp; omega) | omega)) | ((with_reducible refine Below.setCell ?_ ?_ _); rotate_left; focus (first | (simp; done) | (simp; omega) | omega)))) hb
  have hw2 : w9.heap.size ≤ w2.heap.size := hb.size
  have HP2 := Lib.hid (HP.out.step hb)
  have HC3 := Lib.hid (HC1.out.step hb)
  have HR2 := Lib.hid (HR.out.step hb)
  have HP3 := Lib.hid (HP2.out.alloc (.cells #[.slice a3 4 cap3, .slice b3 nc3 cc3] 25))
  have HC4 := Lib.hid (HC3.out.alloc (.cells #[.slice a3 4 cap3, .slice b3 nc3 cc3] 25))
  have HR3 := Lib.hid (HR2.out.alloc (.cells #[.slice a3 4 cap3, .slice b3 nc3 cc3] 25))
  have HB3 := Lib.hid (below_alloc HB2.out (o := .cells #[.slice a3 4 cap3, .slice b3 nc3 cc3] 25))
  have HO3 := Lib.hid (Blk.new (w := w2) (t := 25) (g := w2.heap.size) (cs := [.slice a3 4 cap3, .slice b3 nc3 cc3]) rfl)
  obtain ⟨g3, hg, ⟨hg1, hg2⟩, ⟨-, hn1', hn2⟩, -, -⟩ := op.at_ HI.out
  cases hg
  unfold maxLen at hn2
  have OP3 := Lib.hid (op.alloc (.cells #[.slice (some ⟨g3, 0, none⟩) 4 cap3, .slice b3 nc3 cc3] 25))
  have OC3 := Lib.hid (OwnC.alloc oc (.cells #[.slice (some ⟨g3, 0, none⟩) 4 cap3, .slice b3 nc3 cc3] 25))
  clear r0 r1 rz p0 p1 pz d0 d9 d10 d11 dz hb oc op os e4 HB2 HB HP HC1 HR HP2 HC3 HR2 rl pl cl
  go_upto_region 6 with fail
  generalize hW3 : w2.alloc (.cells #[.slice (some ⟨g3, 0, none⟩) 4 cap3, .slice b3 nc3 cc3] 25) = W3 at HP3 HC4 HR3 HB3 OP3 OC3 HO3 ⊢
  clear hW3
  obtain ⟨p0, p1, pz⟩ := cells2 HP3.out
  obtain ⟨r0, r1, rz⟩ := cells2 HR3.out
  obtain ⟨o0, o1, oz⟩ := cells2 HO3.out
  obtain ⟨⟨⟨d0, -, -, -⟩, -, -, d9, d10, d11⟩, dz⟩ := cells12 HC4.out
  have pl := HP3.out.lt
  have rl := HR3.out.lt
  have cl := HC4.out.lt
  have ol := HO3.out.lt
  obtain ⟨g9, hg9, -, -, hat, hfz⟩ := OP3.out.at_ HI.out
  cases hg9
  obtain ⟨ea, ecap, ⟨⟨c0, c1⟩, c2⟩, -⟩ := hat
  rw [← HPN.out] at c0 c1 c2
  rw [← HAN.out] at c0
  obtain ⟨eb, ecap2, ⟨⟨b0, -⟩, -⟩, -⟩ := HAT.out.keep HB3.out
  rw [← HAN.out] at b0
  obtain ⟨tb, htb⟩ : ∃ tb, tb = p.base := ⟨_, rfl⟩
  obtain ⟨tm, htm⟩ : ∃ tm, tm = p.mark := ⟨_, rfl⟩
  have HTB := Lib.hid htb
  have HTM := Lib.hid htm
  rw [← htb] at c1
  rw [← htm] at c2
  have c3 := hfz (i * 3 + 1)
  have c4 := hfz (i * 3 + 2)
  have hgw3 : g < W3.heap.size := World.block_lt_of_cell? W3 _ b0
  clear htb htm hfz
  have hc : ((an : Int) < n ∧ n' = (an : Int)) ∨ (¬ (an : Int) < n ∧ n' = n) := by have := HN'.out; omega
  have hz : tb < n' ∨ ¬ tb < n' := by omega
  rcases hc with ⟨hc, rfl⟩ | ⟨hc, rfl⟩
  · rcases hz with hz | hz
    · go_wp2_with fail
      have OQ4 := OwnP.put (j := 1) (y := (an : Int)) OP3.out HI.out (p' := ⟨p.all, (an : Int), p.mark⟩) (by rw [← HPN.out]; exact Or.inl ⟨rfl, rfl⟩)
      obtain ⟨ps, -, hrow, -⟩ := OP3.out
      have OC4 := OwnC.over (w' := W3.setCell ⟨g3, i * 3 + 1, none⟩ (.int .i64 ((an : Int)))) OC3.out (fun b hb => heap_setCell_other _ _ _ _ hb) hrow rfl (by decide) (by decide)
      have HR4 := HR3.out.far (b := g3) (o := i * 3 + 1) (by omega) (.int .i64 ((an : Int)))
      have HB4 := HB3.out.setCell (p := ⟨g3, i * 3 + 1, none⟩) (by show w.heap.size ≤ g3; omega) (.int .i64 ((an : Int)))
      obtain ⟨t0, t1, -⟩ := cells2 ((HR4.set_ 0 (.slice (some ⟨g3, 0, none⟩) 4 cap3)).set_ 1 (.slice b3 nc3 cc3))
      refine bodyPost_ret (v := .tuple #[.agg #[.slice (some ⟨g3, 0, none⟩) 4 cap3, .slice b3 nc3 cc3], .int .i64 0]) (by simp [results, Try.results20, go_sem, t0, t1]) rfl ⟨_, _, rfl, ⟨_, _, rfl, ?_, ?_⟩, ?_⟩
      · rw [show max (p.base) ((an : Int)) = (an : Int) by rw [← HTB.out]; omega]
        exact OwnQ.le ((OQ4.far (b := w.heap.size + 2) (by omega)).far (b := w.heap.size + 2) (by omega)) (by omega)
      · exact OwnRows.le (OwnC.far (OwnC.far OC4 (by omega)) (by omega)) (by omega)
      · exact (HB4.setCell (p := ⟨w.heap.size + 2, 0, none⟩) (by simp) _).setCell (p := ⟨w.heap.size + 2, 1, none⟩) (by simp) _
    · go_wp2_with fail
      obtain ⟨t0, t1, -⟩ := cells2 ((HR3.out.set_ 0 (.slice (some ⟨g3, 0, none⟩) 4 cap3)).set_ 1 (.slice b3 nc3 cc3))
      refine bodyPost_ret (v := .tuple #[.agg #[.slice (some ⟨g3, 0, none⟩) 4 cap3, .slice b3 nc3 cc3], .int .i64 0]) (by simp [results, Try.results20, go_sem, t0, t1]) rfl ⟨_, _, rfl, ⟨_, _, rfl, ?_, ?_⟩, ?_⟩
      · rw [show max (p.base) ((an : Int)) = p.base by rw [← HTB.out]; omega, show (⟨p.all, p.base, p.mark⟩ : Pl) = m.tops.getD i default from HPN.out, set_same]
        exact OwnQ.le ((OP3.out.weak.far (b := w.heap.size + 2) (by omega)).far (b := w.heap.size + 2) (by omega)) (by omega)
      · exact OwnRows.le (OwnC.far (OwnC.far OC3.out (by omega)) (by omega)) (by omega)
      · exact (HB3.out.setCell (p := ⟨w.heap.size + 2, 0, none⟩) (by simp) _).setCell (p := ⟨w.heap.size + 2, 1, none⟩) (by simp) _
  · rcases hz with hz | hz
    · go_wp2_with fail
      have OQ4 := OwnP.put (j := 1) (y := n') OP3.out HI.out (p' := ⟨p.all, n', p.mark⟩) (by rw [← HPN.out]; exact Or.inl ⟨rfl, rfl⟩)
      obtain ⟨ps, -, hrow, -⟩ := OP3.out
      have OC4 := OwnC.over (w' := W3.setCell ⟨g3, i * 3 + 1, none⟩ (.int .i64 (n'))) OC3.out (fun b hb => heap_setCell_other _ _ _ _ hb) hrow rfl (by decide) (by decide)
      have HR4 := HR3.out.far (b := g3) (o := i * 3 + 1) (by omega) (.int .i64 (n'))
      have HB4 := HB3.out.setCell (p := ⟨g3, i * 3 + 1, none⟩) (by show w.heap.size ≤ g3; omega) (.int .i64 (n'))
      obtain ⟨t0, t1, -⟩ := cells2 ((HR4.set_ 0 (.slice (some ⟨g3, 0, none⟩) 4 cap3)).set_ 1 (.slice b3 nc3 cc3))
      refine bodyPost_ret (v := .tuple #[.agg #[.slice (some ⟨g3, 0, none⟩) 4 cap3, .slice b3 nc3 cc3], .int .i64 0]) (by simp [results, Try.results20, go_sem, t0, t1]) rfl ⟨_, _, rfl, ⟨_, _, rfl, ?_, ?_⟩, ?_⟩
      · rw [show max (p.base) (n') = n' by rw [← HTB.out]; omega]
        exact OwnQ.le ((OQ4.far (b := w.heap.size + 2) (by omega)).far (b := w.heap.size + 2) (by omega)) (by omega)
      · exact OwnRows.le (OwnC.far (OwnC.far OC4 (by omega)) (by omega)) (by omega)
      · exact (HB4.setCell (p := ⟨w.heap.size + 2, 0, none⟩) (by simp) _).setCell (p := ⟨w.heap.size + 2, 1, none⟩) (by simp) _
    · go_wp2_with fail
      obtain ⟨t0, t1, -⟩ := cells2 ((HR3.out.set_ 0 (.slice (some ⟨g3, 0, none⟩) 4 cap3)).set_ 1 (.slice b3 nc3 cc3))
      refine bodyPost_ret (v := .tuple #[.agg #[.slice (some ⟨g3, 0, none⟩) 4 cap3, .slice b3 nc3 cc3], .int .i64 0]) (by simp [results, Try.results20, go_sem, t0, t1]) rfl ⟨_, _, rfl, ⟨_, _, rfl, ?_, ?_⟩, ?_⟩
      · rw [show max (p.base) (n') = p.base by rw [← HTB.out]; omega, show (⟨p.all, p.base, p.mark⟩ : Pl) = m.tops.getD i default from HPN.out, set_same]
        exact OwnQ.le ((OP3.out.weak.far (b := w.heap.size + 2) (by omega)).far (b := w.heap.size + 2) (by omega)) (by omega)
      · exact OwnRows.le (OwnC.far (OwnC.far OC3.out (by omega)) (by omega)) (by omega)
      · exact (HB3.out.setCell (p := ⟨w.heap.size + 2, 0, none⟩) (by simp) _).setCell (p := ⟨w.heap.size + 2, 1, none⟩) (by simp) _

set_option maxHeartbeats 8000000 in
set_option maxRecDepth 100000 in
theorem mdlRDo_cmp {v : Value} {m : Mdl} {w : World} {mid mt id time : Int} {ga ma : Option Addr} {gn gc mn mc : Nat} {mk mb : ByteArray} (i : Nat) (who n : Int) (h : MdlR w v m) (hm : mayM m) (hi : i < 4) (e2 : 0 ≤ n) (e3 : n ≤ 1073741824) :
    Calls Try.prog 20 #[v, .agg #[.int .u8 6, .int .i64 mid, .slice ga gn gc, .int .i64 mt, .string mk, .string mb, .int .i64 id, .int .i64 time, .slice ma mn mc, .int .i64 (i : Int), .int .i64 who, .int .i64 n]] w (DoEndM ⟨m.tops.set i ⟨(plN m (i : Int)).all, (plN m (i : Int)).base, max (plN m (i : Int)).mark (min n ((plN m (i : Int)).all.length : Int))⟩, m.coms⟩ 0 w) := by
  have S := Lib.hid h
  have HC := Lib.hid (show true = decide (mayM m) by simp [hm])
  obtain ⟨a, cap, bb, nc, cc, rfl, hT, -⟩ := h.shape
  have h4 := hm.1.1
  have HFT := Lib.hid (fit_of_may hm)
  have HOK := Lib.hid hm.2.1
  have HI := Lib.hid (show i < m.tops.length by omega)
  have h1 : (i : Int) < 4 := by omega
  have h0 : 0 ≤ (i : Int) := by omega
  obtain ⟨⟨-, hcap, hmx⟩, g, off, rfl, hat⟩ := MdlR.pl hT (i := i) h0 (by omega)
  rw [show m.tops.getD (i : Int).toNat default = plN m i from rfl] at hat
  obtain ⟨p, hp⟩ : ∃ p, p = plN m (i : Int) := ⟨_, rfl⟩
  have HPN := Lib.hid (show p = m.tops.getD i default by rw [hp, plN, Int.toNat_natCast])
  have HSP := Lib.hid (show shapedP p by rw [hp]; exact mayM_shaped hm _ (plN_mem hm h0 h1))
  rw [← hp] at hat ⊢
  simp only [Int.toNat_natCast] at hat
  have HAT := Lib.hid hat
  have hgw : g < w.heap.size := World.block_lt_of_cell? w _ hat.choose_spec.choose_spec.1.1.1
  obtain ⟨nt, hnt⟩ : ∃ nt, nt = m.tops.length := ⟨_, rfl⟩
  have HNT := Lib.hid hnt
  rw [← hnt] at S h4 hcap ⊢
  subst h4
  unfold maxLen at hmx
  obtain ⟨an, han⟩ : ∃ an, an = p.all.length := ⟨_, rfl⟩
  have HAN := Lib.hid han
  rw [← han]
  have ha6 : an ≤ 600 := by rw [han]; exact HSP.out.2.1
  obtain ⟨n', hn'⟩ : ∃ n', n' = min n (an : Int) := ⟨_, rfl⟩
  have HN' := Lib.hid hn'
  rw [← hn']
  clear h hm hi hp hnt han hn' hat hT
  go_enter Try.func20, Try.ntmps20
  go_wp2_with fail
  refine Calls.mono (refMdlMay_any ?_ HC.out) ?_
  · exact S.out.below (by repeat (first | (with_reducible exact Below.refl _ _) | (with_reducible exact Below.refl _ _) | (with_reducible apply Below.drew) | (with_reducible apply below_alloc) | ((with_reducible refine Below.alloc ?_ ?_ _); rotate_left; focus (first | (simp; done) | (simp; omega) | omega)) | ((with_reducible refine Below.setCell ?_ ?_ _); rotate_left; focus (first | (simp; done) | (simp; omega) | omega))))
  rintro e w1 ⟨rfl, hb⟩
  have HB : Hid (Below w.heap.size w _) := below_step (by repeat (first | (with_reducible exact Below.refl _ _) | (with_reducible exact Below.refl _ _) | (with_reducible apply Below.drew) | (with_reducible apply below_alloc) | ((with_reducible refine Below.alloc ?_ ?_ _); rotate_left; focus (first | (simp; done) | (simp; omega) | omega)) | ((with_reducible refine Below.setCell ?_ ?_ _); rotate_left; focus (first | (simp; done) | (simp; omega) | omega)))) hb
  have P : Blk _ (w.heap.size) _ _ := Blk.step (by repeat (first | ((with_reducible apply Blk.new); focus (first | rfl | (simp; done) | (simp; omega))) | (with_reducible apply Blk.drew) | (with_reducible apply Blk.alloc) | (with_reducible apply Blk.set_) | ((with_reducible apply Blk.far); rotate_left; focus (first | (simp; done) | (simp; omega) | omega)))) hb
  obtain ⟨p0, p1, pz⟩ := cells2 P
  have pl := Blk.lt P
  have HP := Lib.hid P
  clear P
  have HC1 : Hid (Blk w1 (w.heap.size + 1) 47 [.int .u8 6, .int .i64 mid, .slice ga gn gc, .int .i64 mt, .string mk, .string mb, .int .i64 id, .int .i64 time, .slice ma mn mc, .int .i64 (i : Int), .int .i64 who, .int .i64 n]) := Blk.step (by repeat (first | (with_reducible exact Blk.new rfl) | ((with_reducible apply Blk.new); focus (first | rfl | (simp; done) | (simp; omega))) | (with_reducible apply Blk.drew) | (with_reducible apply Blk.alloc) | (with_reducible apply Blk.set_) | ((with_reducible apply Blk.far); rotate_left; focus (first | (simp; done) | (simp; omega) | omega)))) hb
  have R : Blk _ (w.heap.size + 2) _ _ := Blk.step (by repeat (first | ((with_reducible apply Blk.new); focus (first | rfl | (simp; done) | (simp; omega))) | (with_reducible apply Blk.drew) | (with_reducible apply Blk.alloc) | (with_reducible apply Blk.set_) | ((with_reducible apply Blk.far); rotate_left; focus (first | (simp; done) | (simp; omega) | omega)))) hb
  obtain ⟨r0, r1, rz⟩ := cells2 R
  have rl := Blk.lt R
  have HR := Lib.hid R
  clear R
  obtain ⟨⟨⟨d0, -, -, -⟩, -, -, d9, d10, d11⟩, dz⟩ := cells12 HC1.out
  have cl := HC1.out.lt
  clear hb
  go_wp2_with fail
  refine Calls.mono (refIn_any (i : Int) 4 (z := true) (by simp; omega)) ?_
  rintro e w9 ⟨rfl, rfl⟩
  go_wp2_with fail
  refine Calls.mono (refIn_any n 1073741825 (z := true) (by simp; omega)) ?_
  rintro e w9 ⟨rfl, rfl⟩
  go_wp2_with fail
  refine Calls.mono (mdlRTwin_any (m := m) ?_ HFT.out) ?_
  · exact S.out.below (by repeat (first | (with_reducible exact HB.out) | (with_reducible exact Below.refl _ _) | (with_reducible apply Below.drew) | (with_reducible apply below_alloc) | ((with_reducible refine Below.alloc ?_ ?_ _); rotate_left; focus (first | (simp; done) | (simp; omega) | omega)) | ((with_reducible refine Below.setCell ?_ ?_ _); rotate_left; focus (first | (simp; done) | (simp; omega) | omega))))
  rintro e w2 ⟨ta, tc, rfl, os, hb⟩
  obtain ⟨a3, cap3, b3, nc3, cc3, ev, -, -⟩ := os.reads.shape
  cases ev
  have e4 : m.tops.length = 4 := HNT.out.symm
  rw [e4] at os ⊢
  have hw1 : w.heap.size + 2 < w9.heap.size := rl
  have oc := (show OwnC w2 w9.heap.size (.slice b3 nc3 cc3) m.coms from by obtain ⟨_, _, ev, _, h2⟩ := os; cases ev; exact OwnRows.le h2 (by simp))
  have op := (show OwnP w2 w9.heap.size (.slice a3 4 cap3) m.tops from by obtain ⟨_, _, ev, h2, _⟩ := os; cases ev; exact h2.le (by simp))
  have HB2 : Hid (Below w.heap.size w w2) := below_step (by repeat (first | (with_reducible exact HB.out) | (with_reducible exact Below.refl _ _) | (with_reducible apply Below.drew) | (with_reducible apply below_alloc) | ((with_reducible refine Below.alloc ?_ ?_ _); rotate_left; focus (first | (simp; done) | (simp; omega) | omega)) | ((with_reducible refine Below.setCell ?_ ?_ _); rotate_left; focus (first | (simp; done) | (simp; omega) | omega)))) hb
  have hw2 : w9.heap.size ≤ w2.heap.size := hb.size
  have HP2 := Lib.hid (HP.out.step hb)
  have HC3 := Lib.hid (HC1.out.step hb)
  have HR2 := Lib.hid (HR.out.step hb)
  have HP3 := Lib.hid (HP2.out.alloc (.cells #[.slice a3 4 cap3, .slice b3 nc3 cc3] 25))
  have HC4 := Lib.hid (HC3.out.alloc (.cells #[.slice a3 4 cap3, .slice b3 nc3 cc3] 25))
  have HR3 := Lib.hid (HR2.out.alloc (.cells #[.slice a3 4 cap3, .slice b3 nc3 cc3] 25))
  have HB3 := Lib.hid (below_alloc HB2.out (o := .cells #[.slice a3 4 cap3, .slice b3 nc3 cc3] 25))
  have HO3 := Lib.hid (Blk.new (w := w2) (t := 25) (g := w2.heap.size) (cs := [.slice a3 4 cap3, .slice b3 nc3 cc3]) rfl)
  obtain ⟨g3, hg, ⟨hg1, hg2⟩, ⟨-, hn1', hn2⟩, -, -⟩ := op.at_ HI.out
  cases hg
  unfold maxLen at hn2
  have OP3 := Lib.hid (op.alloc (.cells #[.slice (some ⟨g3, 0, none⟩) 4 cap3, .slice b3 nc3 cc3] 25))
  have OC3 := Lib.hid (OwnC.alloc oc (.cells #[.slice (some ⟨g3, 0, none⟩) 4 cap3, .slice b3 nc3 cc3] 25))
  clear r0 r1 rz p0 p1 pz d0 d9 d10 d11 dz hb oc op os e4 HB2 HB HP HC1 HR HP2 HC3 HR2 rl pl cl
  go_upto_region 6 with fail
  generalize hW3 : w2.alloc (.cells #[.slice (some ⟨g3, 0, none⟩) 4 cap3, .slice b3 nc3 cc3] 25) = W3 at HP3 HC4 HR3 HB3 OP3 OC3 HO3 ⊢
  clear hW3
  obtain ⟨p0, p1, pz⟩ := cells2 HP3.out
  obtain ⟨r0, r1, rz⟩ := cells2 HR3.out
  obtain ⟨o0, o1, oz⟩ := cells2 HO3.out
  obtain ⟨⟨⟨d0, -, -, -⟩, -, -, d9, d10, d11⟩, dz⟩ := cells12 HC4.out
  have pl := HP3.out.lt
  have rl := HR3.out.lt
  have cl := HC4.out.lt
  have ol := HO3.out.lt
  obtain ⟨g9, hg9, -, -, hat, hfz⟩ := OP3.out.at_ HI.out
  cases hg9
  obtain ⟨ea, ecap, ⟨⟨c0, c1⟩, c2⟩, -⟩ := hat
  rw [← HPN.out] at c0 c1 c2
  rw [← HAN.out] at c0
  obtain ⟨eb, ecap2, ⟨⟨b0, -⟩, -⟩, -⟩ := HAT.out.keep HB3.out
  rw [← HAN.out] at b0
  obtain ⟨tb, htb⟩ : ∃ tb, tb = p.base := ⟨_, rfl⟩
  obtain ⟨tm, htm⟩ : ∃ tm, tm = p.mark := ⟨_, rfl⟩
  have HTB := Lib.hid htb
  have HTM := Lib.hid htm
  rw [← htb] at c1
  rw [← htm] at c2
  have c3 := hfz (i * 3 + 1)
  have c4 := hfz (i * 3 + 2)
  have hgw3 : g < W3.heap.size := World.block_lt_of_cell? W3 _ b0
  clear htb htm hfz
  have hc : ((an : Int) < n ∧ n' = (an : Int)) ∨ (¬ (an : Int) < n ∧ n' = n) := by have := HN'.out; omega
  have hz : tm < n' ∨ ¬ tm < n' := by omega
  rcases hc with ⟨hc, rfl⟩ | ⟨hc, rfl⟩
  · rcases hz with hz | hz
    · go_wp2_with fail
      have OQ4 := OwnP.put (j := 2) (y := (an : Int)) OP3.out HI.out (p' := ⟨p.all, p.base, (an : Int)⟩) (by rw [← HPN.out]; exact Or.inr ⟨rfl, rfl⟩)
      obtain ⟨ps, -, hrow, -⟩ := OP3.out
      have OC4 := OwnC.over (w' := W3.setCell ⟨g3, i * 3 + 2, none⟩ (.int .i64 ((an : Int)))) OC3.out (fun b hb => heap_setCell_other _ _ _ _ hb) hrow rfl (by decide) (by decide)
      have HR4 := HR3.out.far (b := g3) (o := i * 3 + 2) (by omega) (.int .i64 ((an : Int)))
      have HB4 := HB3.out.setCell (p := ⟨g3, i * 3 + 2, none⟩) (by show w.heap.size ≤ g3; omega) (.int .i64 ((an : Int)))
      obtain ⟨t0, t1, -⟩ := cells2 ((HR4.set_ 0 (.slice (some ⟨g3, 0, none⟩) 4 cap3)).set_ 1 (.slice b3 nc3 cc3))
      refine bodyPost_ret (v := .tuple #[.agg #[.slice (some ⟨g3, 0, none⟩) 4 cap3, .slice b3 nc3 cc3], .int .i64 0]) (by simp [results, Try.results20, go_sem, t0, t1]) rfl ⟨_, _, rfl, ⟨_, _, rfl, ?_, ?_⟩, ?_⟩
      · rw [show max (p.mark) ((an : Int)) = (an : Int) by rw [← HTM.out]; omega]
        exact OwnQ.le ((OQ4.far (b := w.heap.size + 2) (by omega)).far (b := w.heap.size + 2) (by omega)) (by omega)
      · exact OwnRows.le (OwnC.far (OwnC.far OC4 (by omega)) (by omega)) (by omega)
      · exact (HB4.setCell (p := ⟨w.heap.size + 2, 0, none⟩) (by simp) _).setCell (p := ⟨w.heap.size + 2, 1, none⟩) (by simp) _
    · go_wp2_with fail
      obtain ⟨t0, t1, -⟩ := cells2 ((HR3.out.set_ 0 (.slice (some ⟨g3, 0, none⟩) 4 cap3)).set_ 1 (.slice b3 nc3 cc3))
      refine bodyPost_ret (v := .tuple #[.agg #[.slice (some ⟨g3, 0, none⟩) 4 cap3, .slice b3 nc3 cc3], .int .i64 0]) (by simp [results, Try.results20, go_sem, t0, t1]) rfl ⟨_, _, rfl, ⟨_, _, rfl, ?_, ?_⟩, ?_⟩
      · rw [show max (p.mark) ((an : Int)) = p.mark by rw [← HTM.out]; omega, show (⟨p.all, p.base, p.mark⟩ : Pl) = m.tops.getD i default from HPN.out, set_same]
        exact OwnQ.le ((OP3.out.weak.far (b := w.heap.size + 2) (by omega)).far (b := w.heap.size + 2) (by omega)) (by omega)
      · exact OwnRows.le (OwnC.far (OwnC.far OC3.out (by omega)) (by omega)) (by omega)
      · exact (HB3.out.setCell (p := ⟨w.heap.size + 2, 0, none⟩) (by simp) _).setCell (p := ⟨w.heap.size + 2, 1, none⟩) (by simp) _
  · rcases hz with hz | hz
    · go_wp2_with fail
      have OQ4 := OwnP.put (j := 2) (y := n') OP3.out HI.out (p' := ⟨p.all, p.base, n'⟩) (by rw [← HPN.out]; exact Or.inr ⟨rfl, rfl⟩)
      obtain ⟨ps, -, hrow, -⟩ := OP3.out
      have OC4 := OwnC.over (w' := W3.setCell ⟨g3, i * 3 + 2, none⟩ (.int .i64 (n'))) OC3.out (fun b hb => heap_setCell_other _ _ _ _ hb) hrow rfl (by decide) (by decide)
      have HR4 := HR3.out.far (b := g3) (o := i * 3 + 2) (by omega) (.int .i64 (n'))
      have HB4 := HB3.out.setCell (p := ⟨g3, i * 3 + 2, none⟩) (by show w.heap.size ≤ g3; omega) (.int .i64 (n'))
      obtain ⟨t0, t1, -⟩ := cells2 ((HR4.set_ 0 (.slice (some ⟨g3, 0, none⟩) 4 cap3)).set_ 1 (.slice b3 nc3 cc3))
      refine bodyPost_ret (v := .tuple #[.agg #[.slice (some ⟨g3, 0, none⟩) 4 cap3, .slice b3 nc3 cc3], .int .i64 0]) (by simp [results, Try.results20, go_sem, t0, t1]) rfl ⟨_, _, rfl, ⟨_, _, rfl, ?_, ?_⟩, ?_⟩
      · rw [show max (p.mark) (n') = n' by rw [← HTM.out]; omega]
        exact OwnQ.le ((OQ4.far (b := w.heap.size + 2) (by omega)).far (b := w.heap.size + 2) (by omega)) (by omega)
      · exact OwnRows.le (OwnC.far (OwnC.far OC4 (by omega)) (by omega)) (by omega)
      · exact (HB4.setCell (p := ⟨w.heap.size + 2, 0, none⟩) (by simp) _).setCell (p := ⟨w.heap.size + 2, 1, none⟩) (by simp) _
    · go_wp2_with fail
      obtain ⟨t0, t1, -⟩ := cells2 ((HR3.out.set_ 0 (.slice (some ⟨g3, 0, none⟩) 4 cap3)).set_ 1 (.slice b3 nc3 cc3))
      refine bodyPost_ret (v := .tuple #[.agg #[.slice (some ⟨g3, 0, none⟩) 4 cap3, .slice b3 nc3 cc3], .int .i64 0]) (by simp [results, Try.results20, go_sem, t0, t1]) rfl ⟨_, _, rfl, ⟨_, _, rfl, ?_, ?_⟩, ?_⟩
      · rw [show max (p.mark) (n') = p.mark by rw [← HTM.out]; omega, show (⟨p.all, p.base, p.mark⟩ : Pl) = m.tops.getD i default from HPN.out, set_same]
        exact OwnQ.le ((OP3.out.weak.far (b := w.heap.size + 2) (by omega)).far (b := w.heap.size + 2) (by omega)) (by omega)
      · exact OwnRows.le (OwnC.far (OwnC.far OC3.out (by omega)) (by omega)) (by omega)
      · exact (HB3.out.setCell (p := ⟨w.heap.size + 2, 0, none⟩) (by simp) _).setCell (p := ⟨w.heap.size + 2, 1, none⟩) (by simp) _

set_option maxHeartbeats 8000000 in
set_option maxRecDepth 100000 in
theorem mdlRDo_com {v : Value} {m : Mdl} {w : World} {mid mt id time : Int} {ga ma : Option Addr} {gn gc mn mc : Nat} {mk mb : ByteArray} (i : Nat) (who n : Int) (h : MdlR w v m) (hm : mayM m) (hi : i < 4) (e0 : 0 ≤ who) (e1 : who < 8) {u : Mdl} {x : Int} (hu : (if ((plN m (i : Int)).all.length : Int) < n then (Mdl.zero, 170) else (⟨m.tops, setC m.coms (i : Int) who n⟩, 0)) = (u, x)) (e2 : 0 ≤ n) (e3 : n ≤ 1073741824) :
    Calls Try.prog 20 #[v, .agg #[.int .u8 4, .int .i64 mid, .slice ga gn gc, .int .i64 mt, .string mk, .string mb, .int .i64 id, .int .i64 time, .slice ma mn mc, .int .i64 (i : Int), .int .i64 who, .int .i64 n]] w (DoEndM u x w) := by
  have S := Lib.hid h
  have HC := Lib.hid (show true = decide (mayM m) by simp [hm])
  obtain ⟨a, cap, bb, nc, cc, rfl, hT, -⟩ := h.shape
  have h4 := hm.1.1
  have HFT := Lib.hid (fit_of_may hm)
  have HOK := Lib.hid hm.2.1
  have HI := Lib.hid (show i < m.tops.length by omega)
  have h1 : (i : Int) < 4 := by omega
  have h0 : 0 ≤ (i : Int) := by omega
  obtain ⟨⟨-, hcap, hmx⟩, g, off, rfl, hat⟩ := MdlR.pl hT (i := i) h0 (by omega)
  rw [show m.tops.getD (i : Int).toNat default = plN m i from rfl] at hat
  obtain ⟨p, hp⟩ : ∃ p, p = plN m (i : Int) := ⟨_, rfl⟩
  have HPN := Lib.hid (show p = m.tops.getD i default by rw [hp, plN, Int.toNat_natCast])
  have HSP := Lib.hid (show shapedP p by rw [hp]; exact mayM_shaped hm _ (plN_mem hm h0 h1))
  rw [← hp] at hat hu
  simp only [Int.toNat_natCast] at hat
  have HAT := Lib.hid hat
  have hgw : g < w.heap.size := World.block_lt_of_cell? w _ hat.choose_spec.choose_spec.1.1.1
  obtain ⟨nt, hnt⟩ : ∃ nt, nt = m.tops.length := ⟨_, rfl⟩
  have HNT := Lib.hid hnt
  rw [← hnt] at S h4 hcap ⊢
  subst h4
  unfold maxLen at hmx
  obtain ⟨an, han⟩ : ∃ an, an = p.all.length := ⟨_, rfl⟩
  have HAN := Lib.hid han
  rw [← han] at hu
  have ha6 : an ≤ 600 := by rw [han]; exact HSP.out.2.1
  obtain ⟨n', hn'⟩ : ∃ n', n' = min n (an : Int) := ⟨_, rfl⟩
  have HN' := Lib.hid hn'
  have HU := Lib.hid hu
  clear hu
  clear h hm hi hp hnt han hn' hat hT
  go_enter Try.func20, Try.ntmps20
  go_wp2_with fail
  refine Calls.mono (refMdlMay_any ?_ HC.out) ?_
  · exact S.out.below (by repeat (first | (with_reducible exact Below.refl _ _) | (with_reducible exact Below.refl _ _) | (with_reducible apply Below.drew) | (with_reducible apply below_alloc) | ((with_reducible refine Below.alloc ?_ ?_ _); rotate_left; focus (first | (simp; done) | (simp; omega) | omega)) | ((with_reducible refine Below.setCell ?_ ?_ _); rotate_left; focus (first | (simp; done) | (simp; omega) | omega))))
  rintro e w1 ⟨rfl, hb⟩
  have HB : Hid (Below w.heap.size w _) := below_step (by repeat (first | (with_reducible exact Below.refl _ _) | (with_reducible exact Below.refl _ _) | (with_reducible apply Below.drew) | (with_reducible apply below_alloc) | ((with_reducible refine Below.alloc ?_ ?_ _); rotate_left; focus (first | (simp; done) | (simp; omega) | omega)) | ((with_reducible refine Below.setCell ?_ ?_ _); rotate_left; focus (first | (simp; done) | (simp; omega) | omega)))) hb
  have P : Blk _ (w.heap.size) _ _ := Blk.step (by repeat (first | ((with_reducible apply Blk.new); focus (first | rfl | (simp; done) | (simp; omega))) | (with_reducible apply Blk.drew) | (with_reducible apply Blk.alloc) | (with_reducible apply Blk.set_) | ((with_reducible apply Blk.far); rotate_left; focus (first | (simp; done) | (simp; omega) | omega)))) hb
  obtain ⟨p0, p1, pz⟩ := cells2 P
  have pl := Blk.lt P
  have HP := Lib.hid P
  clear P
  have HC1 : Hid (Blk w1 (w.heap.size + 1) 47 [.int .u8 4, .int .i64 mid, .slice ga gn gc, .int .i64 mt, .string mk, .string mb, .int .i64 id, .int .i64 time, .slice ma mn mc, .int .i64 (i : Int), .int .i64 who, .int .i64 n]) := Blk.step (by repeat (first | (with_reducible exact Blk.new rfl) | ((with_reducible apply Blk.new); focus (first | rfl | (simp; done) | (simp; omega))) | (with_reducible apply Blk.drew) | (with_reducible apply Blk.alloc) | (with_reducible apply Blk.set_) | ((with_reducible apply Blk.far); rotate_left; focus (first | (simp; done) | (simp; omega) | omega)))) hb
  have R : Blk _ (w.heap.size + 2) _ _ := Blk.step (by repeat (first | ((with_reducible apply Blk.new); focus (first | rfl | (simp; done) | (simp; omega))) | (with_reducible apply Blk.drew) | (with_reducible apply Blk.alloc) | (with_reducible apply Blk.set_) | ((with_reducible apply Blk.far); rotate_left; focus (first | (simp; done) | (simp; omega) | omega)))) hb
  obtain ⟨r0, r1, rz⟩ := cells2 R
  have rl := Blk.lt R
  have HR := Lib.hid R
  clear R
  obtain ⟨⟨⟨d0, -, -, -⟩, -, -, d9, d10, d11⟩, dz⟩ := cells12 HC1.out
  have cl := HC1.out.lt
  clear hb
  go_wp2_with fail
  refine Calls.mono (refIn_any (i : Int) 4 (z := true) (by simp; omega)) ?_
  rintro e w9 ⟨rfl, rfl⟩
  go_wp2_with fail
  refine Calls.mono (refIn_any n 1073741825 (z := true) (by simp; omega)) ?_
  rintro e w9 ⟨rfl, rfl⟩
  go_wp2_with fail
  refine Calls.mono (refIn_any who 8 (z := true) (by simp; omega)) ?_
  rintro e w9 ⟨rfl, rfl⟩
  go_wp2_with fail
  refine Calls.mono (mdlRTwin_any (m := m) ?_ HFT.out) ?_
  · exact S.out.below (by repeat (first | (with_reducible exact HB.out) | (with_reducible exact Below.refl _ _) | (with_reducible apply Below.drew) | (with_reducible apply below_alloc) | ((with_reducible refine Below.alloc ?_ ?_ _); rotate_left; focus (first | (simp; done) | (simp; omega) | omega)) | ((with_reducible refine Below.setCell ?_ ?_ _); rotate_left; focus (first | (simp; done) | (simp; omega) | omega))))
  rintro e w2 ⟨ta, tc, rfl, os, hb⟩
  obtain ⟨a3, cap3, b3, nc3, cc3, ev, -, -⟩ := os.reads.shape
  cases ev
  have e4 : m.tops.length = 4 := HNT.out.symm
  rw [e4] at os ⊢
  have hw1 : w.heap.size + 2 < w9.heap.size := rl
  have oc := (show OwnC w2 w9.heap.size (.slice b3 nc3 cc3) m.coms from by obtain ⟨_, _, ev, _, h2⟩ := os; cases ev; exact OwnRows.le h2 (by simp))
  have op := (show OwnP w2 w9.heap.size (.slice a3 4 cap3) m.tops from by obtain ⟨_, _, ev, h2, _⟩ := os; cases ev; exact h2.le (by simp))
  have HB2 : Hid (Below w.heap.size w w2) := below_step (by repeat (first | (with_reducible exact HB.out) | (with_reducible exact Below.refl _ _) | (with_reducible apply Below.drew) | (with_reducible apply below_alloc) | ((with_reducible refine Below.alloc ?_ ?_ _); rotate_left; focus (first | (simp; done) | (simp; omega) | omega)) | ((with_reducible refine Below.setCell ?_ ?_ _); rotate_left; focus (first | (simp; done) | (simp; omega) | omega)))) hb
  have hw2 : w9.heap.size ≤ w2.heap.size := hb.size
  have HP2 := Lib.hid (HP.out.step hb)
  have HC3 := Lib.hid (HC1.out.step hb)
  have HR2 := Lib.hid (HR.out.step hb)
  have HP3 := Lib.hid (HP2.out.alloc (.cells #[.slice a3 4 cap3, .slice b3 nc3 cc3] 25))
  have HC4 := Lib.hid (HC3.out.alloc (.cells #[.slice a3 4 cap3, .slice b3 nc3 cc3] 25))
  have HR3 := Lib.hid (HR2.out.alloc (.cells #[.slice a3 4 cap3, .slice b3 nc3 cc3] 25))
  have HB3 := Lib.hid (below_alloc HB2.out (o := .cells #[.slice a3 4 cap3, .slice b3 nc3 cc3] 25))
  have HO3 := Lib.hid (Blk.new (w := w2) (t := 25) (g := w2.heap.size) (cs := [.slice a3 4 cap3, .slice b3 nc3 cc3]) rfl)
  obtain ⟨g3, hg, ⟨hg1, hg2⟩, ⟨-, hn1', hn2⟩, -, -⟩ := op.at_ HI.out
  cases hg
  unfold maxLen at hn2
  have OP3 := Lib.hid (op.alloc (.cells #[.slice (some ⟨g3, 0, none⟩) 4 cap3, .slice b3 nc3 cc3] 25))
  have OC3 := Lib.hid (OwnC.alloc oc (.cells #[.slice (some ⟨g3, 0, none⟩) 4 cap3, .slice b3 nc3 cc3] 25))
  clear r0 r1 rz p0 p1 pz d0 d9 d10 d11 dz hb oc op os e4 HB2 HB HP HC1 HR HP2 HC3 HR2 rl pl cl
  go_upto_region 6 with fail
  generalize hW3 : w2.alloc (.cells #[.slice (some ⟨g3, 0, none⟩) 4 cap3, .slice b3 nc3 cc3] 25) = W3 at HP3 HC4 HR3 HB3 OP3 OC3 HO3 ⊢
  clear hW3
  obtain ⟨p0, p1, pz⟩ := cells2 HP3.out
  obtain ⟨r0, r1, rz⟩ := cells2 HR3.out
  obtain ⟨o0, o1, oz⟩ := cells2 HO3.out
  obtain ⟨⟨⟨d0, -, -, -⟩, -, -, d9, d10, d11⟩, dz⟩ := cells12 HC4.out
  have pl := HP3.out.lt
  have rl := HR3.out.lt
  have cl := HC4.out.lt
  have ol := HO3.out.lt
  obtain ⟨g9, hg9, -, -, hat, hfz⟩ := OP3.out.at_ HI.out
  cases hg9
  obtain ⟨ea, ecap, ⟨⟨c0, c1⟩, c2⟩, -⟩ := hat
  rw [← HPN.out] at c0 c1 c2
  rw [← HAN.out] at c0
  obtain ⟨eb, ecap2, ⟨⟨b0, -⟩, -⟩, -⟩ := HAT.out.keep HB3.out
  rw [← HAN.out] at b0
  obtain ⟨tb, htb⟩ : ∃ tb, tb = p.base := ⟨_, rfl⟩
  obtain ⟨tm, htm⟩ : ∃ tm, tm = p.mark := ⟨_, rfl⟩
  have HTB := Lib.hid htb
  have HTM := Lib.hid htm
  rw [← htb] at c1
  rw [← htm] at c2
  have c3 := hfz (i * 3 + 1)
  have c4 := hfz (i * 3 + 2)
  have hgw3 : g < W3.heap.size := World.block_lt_of_cell? W3 _ b0
  clear htb htm hfz
  by_cases hnn : (an : Int) < n
  · have hu := HU.out
    rw [if_pos hnn] at hu
    cases hu
    go_wp2_with fail
    obtain ⟨t0, t1, -⟩ := cells2 ((HR3.out.set_ 0 (.slice none 0 0)).set_ 1 (.slice none 0 0))
    refine bodyPost_ret (v := .tuple #[.agg #[.slice none 0 0, .slice none 0 0], .int .i64 170]) (by simp [results, Try.results20, go_sem, t0, t1]) rfl ⟨_, _, rfl, OwnN.zero _ _, ?_⟩
    exact (HB3.out.setCell (p := ⟨w.heap.size + 2, 0, none⟩) (by simp) _).setCell (p := ⟨w.heap.size + 2, 1, none⟩) (by simp) _
  · have hu := HU.out
    rw [if_neg hnn] at hu
    cases hu
    go_wp2_with fail
    refine Calls.mono (refSet_yes (m := m.coms) (i : Int) who n ?_ HOK.out h0 h1 e0 e1 e2 e3) ?_
    · obtain ⟨_, _, ev, -, hR⟩ := S.out
      cases ev
      exact hR.below (by repeat (first | (with_reducible exact HB3.out) | (with_reducible exact Below.refl _ _) | (with_reducible apply Below.drew) | (with_reducible apply below_alloc) | ((with_reducible refine Below.alloc ?_ ?_ _); rotate_left; focus (first | (simp; done) | (simp; omega) | omega)) | ((with_reducible refine Below.setCell ?_ ?_ _); rotate_left; focus (first | (simp; done) | (simp; omega) | omega))))
    rintro e w3 ⟨vc, rfl, oc, hb⟩
    obtain ⟨ac, nac, cac, rfl⟩ := oc.reads.shape
    have HB4 : Hid (Below w.heap.size w w3) := below_step (by repeat (first | (with_reducible exact HB3.out) | (with_reducible exact Below.refl _ _) | (with_reducible apply Below.drew) | (with_reducible apply below_alloc) | ((with_reducible refine Below.alloc ?_ ?_ _); rotate_left; focus (first | (simp; done) | (simp; omega) | omega)) | ((with_reducible refine Below.setCell ?_ ?_ _); rotate_left; focus (first | (simp; done) | (simp; omega) | omega)))) hb
    have HR4 : Hid (Blk w3 (w.heap.size + 2) _ _) := Lib.hid (HR3.out.step hb)
    have HO4 : Hid (Blk w3 w2.heap.size _ _) := Lib.hid (HO3.out.step hb)
    have HC5 := Lib.hid (HC4.out.step hb)
    have OQ4 : Hid (OwnQ w3 w9.heap.size _ m.tops) := Lib.hid (OwnQ.keep OP3.out.weak hb)
    have OC4 : Hid (OwnC w3 W3.heap.size _ _) := Lib.hid (OwnRows.le oc (by simp))
    have hw3 : W3.heap.size ≤ w3.heap.size := hb.size
    have hw39 : w2.heap.size < W3.heap.size := ol
    clear p0 p1 pz r0 r1 rz o0 o1 oz d0 d9 d10 d11 dz pl rl cl ol hb oc HB3 HP3 HC4 HR3 HO3 OP3 OC3 c0 c1 c2 c3 c4 b0
    obtain ⟨r0, r1, rz⟩ := cells2 HR4.out
    obtain ⟨o0, o1, oz⟩ := cells2 HO4.out
    obtain ⟨⟨⟨d0, -, -, -⟩, -, -, d9, d10, d11⟩, dz⟩ := cells12 HC5.out
    have rl := HR4.out.lt
    have ol := HO4.out.lt
    go_wp2_with fail
    have HQ3 := HO4.out.set_ 1 (.slice ac nac cac)
    have HR5 := HR4.out.far (b := w2.heap.size) (o := 1) (by omega) (.slice ac nac cac)
    have OQ5 := OwnQ.blk (u := .slice ac nac cac) (o := 1) OQ4.out HO4.out (by decide) (by decide)
    have OC5 := OwnC.blk (u := .slice ac nac cac) (o := 1) OC4.out HO4.out (by decide) (by decide)
    have HR6 := HR5.set_ 0 (.slice (some ⟨g3, 0, none⟩) 4 cap3)
    obtain ⟨t0, t1, -⟩ := cells2 (HR6.set_ 1 (.slice ac nac cac))
    refine bodyPost_ret (v := .tuple #[.agg #[.slice (some ⟨g3, 0, none⟩) 4 cap3, .slice ac nac cac], .int .i64 0]) (by simp [results, Try.results20, go_sem, t0, t1]) rfl ⟨_, _, rfl, ⟨_, _, rfl, ?_, ?_⟩, ?_⟩
    · exact OwnQ.le ((OQ5.far (b := w.heap.size + 2) (by omega)).far (b := w.heap.size + 2) (by omega)) (by omega)
    · exact OwnRows.le (OwnC.far (OwnC.far OC5 (by omega)) (by omega)) (by omega)
    · exact ((HB4.out.setCell (p := ⟨w2.heap.size, 1, none⟩) (by simp; omega) _).setCell (p := ⟨w.heap.size + 2, 0, none⟩) (by simp) _).setCell (p := ⟨w.heap.size + 2, 1, none⟩) (by simp) _

set_option maxHeartbeats 8000000 in
set_option maxRecDepth 100000 in
theorem mdlRDo_any {v : Value} {m : Mdl} {w : World} {kind mid mt id time : Int} {ga ma : Option Addr} {gn gc mn mc : Nat} {mk mb : ByteArray} {u : Mdl} {x : Int} (topic who n : Int) (h : MdlR w v m) (hu : doM m kind topic who n = (u, x)) :
    Calls Try.prog 20 #[v, .agg #[.int .u8 kind, .int .i64 mid, .slice ga gn gc, .int .i64 mt, .string mk, .string mb, .int .i64 id, .int .i64 time, .slice ma mn mc, .int .i64 topic, .int .i64 who, .int .i64 n]] w (DoEndM u x w) := by
  rw [doM] at hu
  by_cases hm : mayM m
  · rw [if_pos hm] at hu
    by_cases hr : rightD kind topic who n
    · rw [if_neg (fun hh => hh hr)] at hu
      obtain ⟨hk, ⟨h0, h1⟩, e2, e3⟩ := hr
      obtain ⟨i, rfl⟩ : ∃ i : Nat, topic = (i : Int) := ⟨topic.toNat, by omega⟩
      have hi : i < 4 := by omega
      rw [Int.toNat_natCast] at hu
      rcases hk with (rfl | rfl) | ⟨rfl, e0, e1⟩
      · rw [if_neg (by decide), if_pos rfl] at hu
        cases hu
        exact mdlRDo_ret i who n h hm hi e2 e3
      · rw [if_neg (by decide), if_neg (by decide)] at hu
        cases hu
        exact mdlRDo_cmp i who n h hm hi e2 e3
      · rw [if_pos rfl] at hu
        exact mdlRDo_com i who n h hm hi e0 e1 hu e2 e3
    · rw [if_pos hr] at hu
      cases hu
      exact mdlRDo_no topic who n h hm hr
  · rw [if_neg hm] at hu
    cases hu
    exact mdlRDo_bad topic who n h hm

end Go.Proofs.Ytblgmjbajnkcdab
