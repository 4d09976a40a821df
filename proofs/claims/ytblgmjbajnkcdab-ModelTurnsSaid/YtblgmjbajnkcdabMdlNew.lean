/-
  model.New and the document's. No condition.
-/
import Derived.Test.YtblgmjbajnkcdabMdlO
import Derived.Test.YtblgmjbajnkcdabBunS
import Derived.Test.YtblgmjbajnkcdabBunK
import Derived.Test.YtblgmjbajnkcdabMdlTwin
import Derived.Deep.RegionLaw
namespace Go.Proofs.Ytblgmjbajnkcdab
open Go.RowKit

def newM : Mdl := ⟨List.replicate 4 default, newC⟩
theorem zero_pls : (madeCells (Value.agg #[.slice none 0 0, .int .i64 0, .int .i64 0]).cells (4 * 3)).toList = ((List.replicate 4 ((Value.slice none 0 0, default) : Value × Pl)).flatMap plCells) := by
  unfold madeCells
  rw [Array.toList_map, Array.toList_range]
  rfl
theorem make_pls : ∃ zt : Array Value, (∀ w : World, Sem.run Try.prog (Instr.makeSlice 22 (.int .i64 4) (.int .i64 4)) w = .ok (.slice (some ⟨w.heap.size, 0, none⟩) 4 4) (w.alloc (.cells zt 84))) ∧
    ∀ (w : World) (B : Nat), B ≤ w.heap.size → OwnP (w.alloc (.cells zt 84)) B (.slice (some ⟨w.heap.size, 0, none⟩) 4 4) (List.replicate 4 default) := by
  obtain ⟨i0, hi, hz0, hz1, hz2⟩ := info_parts info_pl
  refine ⟨madeCells (Value.agg #[.slice none 0 0, .int .i64 0, .int .i64 0]).cells (4 * 3), fun w => ?_, fun w B hB => ?_⟩
  · have h := run_make (P := Try.prog) w 22 84 i0 _ Try.underlying22 hi hz0 .i64 .i64 4 4 (by omega) (by omega) (by rw [hz2]; decide) (by omega)
    rw [hz1] at h
    exact h
  · refine ⟨List.replicate 4 (.slice none 0 0, default), by simp, ?_, fun p hp => ?_, ?_⟩
    · have h := World.ownsRow_lit (base := B) (e := 84) (size := 3) w (madeCells (Value.agg #[.slice none 0 0, .int .i64 0, .int .i64 0]).cells (4 * 3)) 4 hB (by unfold maxLen; omega) (size_madeCells _ _)
      rw [zero_pls] at h
      exact h
    · rw [List.eq_of_mem_replicate hp]
      exact World.ownsRow_nil _ _ _ _
    · rw [List.pairwise_replicate]
      exact Or.inr (fun k h => by simp [Value.ownBlock] at h)

theorem pat1 {W W' : World} {B g n cap : Nat} (h : Nat) {l : List Pl} (o : OwnP W B (.slice (some ⟨h, 0, none⟩) n cap) l) (e : h = g) (hb : Below W.heap.size W W') : Hid (OwnP W' B (.slice (some ⟨g, 0, none⟩) n cap) l) := by
  subst e
  exact Lib.hid (o.keep hb)

set_option maxHeartbeats 8000000 in
set_option maxRecDepth 100000 in
theorem mdlRNew_any (w : World) : Calls Try.prog 29 #[] w (MdlEnd newM w) := by
  obtain ⟨zt, hmk, hot⟩ := make_pls
  have HOT := Lib.hid hot
  have hfd := field_coms
  clear hot
  go_enter Try.func29, Try.ntmps29
  go_wp2_with fail
  go_region_with (first | (go_at_call 63; refine (refNew_any _).mono ?_; rintro e w4 ⟨v4, rfl, oc, hb⟩; obtain ⟨ac, nac, cac, rfl⟩ := oc.reads.shape; have HR : Hid (Blk w4 w.heap.size 25 [.slice none 0 0, .slice none 0 0]) := Lib.hid (Blk.step (by repeat (first | (with_reducible exact Blk.new rfl) | ((with_reducible apply Blk.new); focus (first | rfl | (simp; done) | (simp; omega))) | (with_reducible apply Blk.drew) | (with_reducible apply Blk.alloc) | (with_reducible apply Blk.set_) | ((with_reducible apply Blk.far); rotate_left; focus (first | (simp; done) | (simp; omega) | omega)))) hb); have HB : Hid (Below w.heap.size w w4) := below_step (by repeat (first | (with_reducible exact Below.refl _ _) | (with_reducible exact Below.refl _ _) | (with_reducible apply Below.drew) | (with_reducible apply below_alloc) | ((with_reducible refine Below.alloc ?_ ?_ _); rotate_left; focus (first | (simp; done) | (simp; omega) | omega)) | ((with_reducible refine Below.setCell ?_ ?_ _); rotate_left; focus (first | (simp; done) | (simp; omega) | omega)))) hb; obtain ⟨r0, r1, rz⟩ := cells2 HR.out; have rl := HR.out.lt; have OC : Hid (OwnC w4 (w.heap.size + 1) _ _) := Lib.hid (OwnRows.le oc (by simp)); have OT : Hid (OwnP w4 (w.heap.size + 1) (.slice (some ⟨w.heap.size + 1, 0, none⟩) 4 4) (List.replicate 4 default)) := (pat1 _ (HOT.out ((w.alloc (.cells #[.slice none 0 0, .slice none 0 0] 25)).drew) (w.heap.size + 1) (by simp)) (by simp) hb); clear hb oc) | (go_at_call 63; refine (refNew_any _).mono ?_; rintro e w4 ⟨v4, rfl, oc, hb⟩; obtain ⟨ac, nac, cac, rfl⟩ := oc.reads.shape; have HR : Hid (Blk w4 w.heap.size 25 [.slice none 0 0, .slice none 0 0]) := Lib.hid (Blk.step (by repeat (first | (with_reducible exact Blk.new rfl) | ((with_reducible apply Blk.new); focus (first | rfl | (simp; done) | (simp; omega))) | (with_reducible apply Blk.drew) | (with_reducible apply Blk.alloc) | (with_reducible apply Blk.set_) | ((with_reducible apply Blk.far); rotate_left; focus (first | (simp; done) | (simp; omega) | omega)))) hb); have HB : Hid (Below w.heap.size w w4) := below_step (by repeat (first | (with_reducible exact Below.refl _ _) | (with_reducible exact Below.refl _ _) | (with_reducible apply Below.drew) | (with_reducible apply below_alloc) | ((with_reducible refine Below.alloc ?_ ?_ _); rotate_left; focus (first | (simp; done) | (simp; omega) | omega)) | ((with_reducible refine Below.setCell ?_ ?_ _); rotate_left; focus (first | (simp; done) | (simp; omega) | omega)))) hb; obtain ⟨r0, r1, rz⟩ := cells2 HR.out; have rl := HR.out.lt; have OC : Hid (OwnC w4 (w.heap.size + 1) _ _) := Lib.hid (OwnRows.le oc (by simp)); clear hb oc))
  · obtain ⟨t0, t1, -⟩ := cells2 ((HR.out.set_ 0 (.slice (some ⟨w.heap.size + 1, 0, none⟩) 4 4)).set_ 1 (.slice ac nac cac))
    go_wp2_with fail
    refine bodyPost_ret (v := .agg #[.slice (some ⟨w.heap.size + 1, 0, none⟩) 4 4, .slice ac nac cac]) (by simp [results, Try.results29, go_sem, t0, t1]) rfl ⟨_, _, rfl, ⟨_, _, rfl, ?_, ?_⟩, ?_⟩
    · exact OwnP.le ((OT.out.far (by omega)).far (by omega)) (by omega)
    · exact OwnRows.le (OwnC.far (OwnC.far OC.out (by omega)) (by omega)) (by omega)
    · exact (HB.out.setCell (by simp) _).setCell (by simp) _
  · go_wp2_with fail
    obtain ⟨t0, t1, -⟩ := cells2 (((HR.out.set_ 0 (.slice (some ⟨w4.heap.size, 0, none⟩) 4 4)).set_ 1 (.slice ac nac cac)).alloc (.cells zt 84))
    have ot := HOT.out ((w4.setCell ⟨w.heap.size, 0, none⟩ (.slice (some ⟨w4.heap.size, 0, none⟩) 4 4)).setCell ⟨w.heap.size, 1, none⟩ (.slice ac nac cac)) w.heap.size (by simp; omega)
    have e : ((w4.setCell ⟨w.heap.size, 0, none⟩ (.slice (some ⟨w4.heap.size, 0, none⟩) 4 4)).setCell ⟨w.heap.size, 1, none⟩ (.slice ac nac cac)).heap.size = w4.heap.size := by simp
    rw [e] at ot
    refine bodyPost_ret (v := .agg #[.slice (some ⟨w4.heap.size, 0, none⟩) 4 4, .slice ac nac cac]) (by simp [results, Try.results29, go_sem, t0, t1]) rfl ⟨_, _, rfl, ⟨_, _, rfl, ?_, ?_⟩, ?_⟩
    · exact ot
    · exact OwnC.alloc (OwnRows.le (OwnC.far (OwnC.far OC.out (by omega)) (by omega)) (by omega)) _
    · exact ((HB.out.setCell (by simp) _).setCell (by simp) _).alloc (by simp; omega) _

set_option maxHeartbeats 8000000 in
set_option maxRecDepth 100000 in
theorem mdlNew_any (w : World) : Calls Try.prog 28 #[] w (MdlEnd newM w) := by
  obtain ⟨zt, hmk, hot⟩ := make_pls
  have HOT := Lib.hid hot
  have hfd := field_coms
  clear hot
  go_enter Try.func28, Try.ntmps28
  go_wp2_with fail
  go_region_with (first | (go_at_call 34; refine (strNew_any _).mono ?_; rintro e w4 ⟨vt, v4, rfl, os, hb⟩; obtain ⟨at0, ct0, ac, nac, cac, ev, -, -⟩ := os.reads.shape; cases ev; have oc := os.coms; clear os; have HR : Hid (Blk w4 w.heap.size 25 [.slice none 0 0, .slice none 0 0]) := Lib.hid (Blk.step (by repeat (first | (with_reducible exact Blk.new rfl) | ((with_reducible apply Blk.new); focus (first | rfl | (simp; done) | (simp; omega))) | (with_reducible apply Blk.drew) | (with_reducible apply Blk.alloc) | (with_reducible apply Blk.set_) | ((with_reducible apply Blk.far); rotate_left; focus (first | (simp; done) | (simp; omega) | omega)))) hb); have HB : Hid (Below w.heap.size w w4) := below_step (by repeat (first | (with_reducible exact Below.refl _ _) | (with_reducible exact Below.refl _ _) | (with_reducible apply Below.drew) | (with_reducible apply below_alloc) | ((with_reducible refine Below.alloc ?_ ?_ _); rotate_left; focus (first | (simp; done) | (simp; omega) | omega)) | ((with_reducible refine Below.setCell ?_ ?_ _); rotate_left; focus (first | (simp; done) | (simp; omega) | omega)))) hb; obtain ⟨r0, r1, rz⟩ := cells2 HR.out; have rl := HR.out.lt; have OC : Hid (OwnC w4 (w.heap.size + 1) _ _) := Lib.hid (OwnRows.le oc (by simp)); have OT : Hid (OwnP w4 (w.heap.size + 1) (.slice (some ⟨w.heap.size + 1, 0, none⟩) 4 4) (List.replicate 4 default)) := (pat1 _ (HOT.out ((w.alloc (.cells #[.slice none 0 0, .slice none 0 0] 25)).drew) (w.heap.size + 1) (by simp)) (by simp) hb); clear hb oc) | (go_at_call 34; refine (strNew_any _).mono ?_; rintro e w4 ⟨vt, v4, rfl, os, hb⟩; obtain ⟨at0, ct0, ac, nac, cac, ev, -, -⟩ := os.reads.shape; cases ev; have oc := os.coms; clear os; have HR : Hid (Blk w4 w.heap.size 25 [.slice none 0 0, .slice none 0 0]) := Lib.hid (Blk.step (by repeat (first | (with_reducible exact Blk.new rfl) | ((with_reducible apply Blk.new); focus (first | rfl | (simp; done) | (simp; omega))) | (with_reducible apply Blk.drew) | (with_reducible apply Blk.alloc) | (with_reducible apply Blk.set_) | ((with_reducible apply Blk.far); rotate_left; focus (first | (simp; done) | (simp; omega) | omega)))) hb); have HB : Hid (Below w.heap.size w w4) := below_step (by repeat (first | (with_reducible exact Below.refl _ _) | (with_reducible exact Below.refl _ _) | (with_reducible apply Below.drew) | (with_reducible apply below_alloc) | ((with_reducible refine Below.alloc ?_ ?_ _); rotate_left; focus (first | (simp; done) | (simp; omega) | omega)) | ((with_reducible refine Below.setCell ?_ ?_ _); rotate_left; focus (first | (simp; done) | (simp; omega) | omega)))) hb; obtain ⟨r0, r1, rz⟩ := cells2 HR.out; have rl := HR.out.lt; have OC : Hid (OwnC w4 (w.heap.size + 1) _ _) := Lib.hid (OwnRows.le oc (by simp)); clear hb oc))
  · obtain ⟨t0, t1, -⟩ := cells2 ((HR.out.set_ 0 (.slice (some ⟨w.heap.size + 1, 0, none⟩) 4 4)).set_ 1 (.slice ac nac cac))
    go_wp2_with fail
    refine bodyPost_ret (v := .agg #[.slice (some ⟨w.heap.size + 1, 0, none⟩) 4 4, .slice ac nac cac]) (by simp [results, Try.results28, go_sem, t0, t1]) rfl ⟨_, _, rfl, ⟨_, _, rfl, ?_, ?_⟩, ?_⟩
    · exact OwnP.le ((OT.out.far (by omega)).far (by omega)) (by omega)
    · exact OwnRows.le (OwnC.far (OwnC.far OC.out (by omega)) (by omega)) (by omega)
    · exact (HB.out.setCell (by simp) _).setCell (by simp) _
  · go_wp2_with fail
    obtain ⟨t0, t1, -⟩ := cells2 (((HR.out.set_ 0 (.slice (some ⟨w4.heap.size, 0, none⟩) 4 4)).set_ 1 (.slice ac nac cac)).alloc (.cells zt 84))
    have ot := HOT.out ((w4.setCell ⟨w.heap.size, 0, none⟩ (.slice (some ⟨w4.heap.size, 0, none⟩) 4 4)).setCell ⟨w.heap.size, 1, none⟩ (.slice ac nac cac)) w.heap.size (by simp; omega)
    have e : ((w4.setCell ⟨w.heap.size, 0, none⟩ (.slice (some ⟨w4.heap.size, 0, none⟩) 4 4)).setCell ⟨w.heap.size, 1, none⟩ (.slice ac nac cac)).heap.size = w4.heap.size := by simp
    rw [e] at ot
    refine bodyPost_ret (v := .agg #[.slice (some ⟨w4.heap.size, 0, none⟩) 4 4, .slice ac nac cac]) (by simp [results, Try.results28, go_sem, t0, t1]) rfl ⟨_, _, rfl, ⟨_, _, rfl, ?_, ?_⟩, ?_⟩
    · exact ot
    · exact OwnC.alloc (OwnRows.le (OwnC.far (OwnC.far OC.out (by omega)) (by omega)) (by omega)) _
    · exact ((HB.out.setCell (by simp) _).setCell (by simp) _).alloc (by simp; omega) _
end Go.Proofs.Ytblgmjbajnkcdab
