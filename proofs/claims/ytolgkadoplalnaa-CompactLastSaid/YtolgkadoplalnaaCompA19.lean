/-
  compact.Compact where nothing is compacted. No condition but that the topic reads.
-/
import Derived.Test.YtolgkadoplalnaaComP
import Derived.Test.YtolgkadoplalnaaSeen2
import Derived.Test.YtolgkadoplalnaaRev19
import Derived.Test.YtolgkadoplalnaaLatest19
import Derived.Test.YtolgkadoplalnaaCheck17
import Derived.Test.YtolgkadoplalnaaTwinT
import Derived.Test.YtolgkadoplalnaaTrim18
import Derived.Lib.MinMax
namespace Go.Proofs.Ytolgkadoplalnaa
open Go.RowKit Go.Shelf

attribute [local go_sem] Oper.semAt_some

set_option maxHeartbeats 2000000 in
set_option maxRecDepth 100000 in
theorem compact_bad {v : Value} {t : Top} {w : World} (to : Int) (h : TopR w v t) (hk : ∀ x ∈ t.ents, x.key.size ≤ maxLen) (hm : ¬ t.may) :
    Calls Try.prog 23 #[v, .int .i64 to] w (TopEnd1 Top.zero 8 w) := by
  have T := Lib.hid h
  have HK := Lib.hid hk
  have HM := Lib.hid hm
  obtain ⟨a, cap, rfl, _⟩ := h
  clear hk hm
  go_enter Try.func23, Try.ntmps23
  go_wp2_with fail
  refine Calls.mono (check_no ?_ HK.out HM.out) ?_
  · exact T.out.below (by repeat (first | (with_reducible exact Below.refl _ _) | (with_reducible exact Below.refl _ _) | (with_reducible apply Below.drew) | (with_reducible apply below_alloc) | ((with_reducible refine Below.alloc ?_ ?_ _); rotate_left; focus (first | (simp; done) | (simp; omega) | omega)) | ((with_reducible refine Below.setCell ?_ ?_ _); rotate_left; focus (first | (simp; done) | (simp; omega) | omega))))
  rintro e w2 ⟨rfl, hb⟩
  have HB : Hid (Below w.heap.size w _) := below_step (by repeat (first | (with_reducible exact Below.refl _ _) | (with_reducible exact Below.refl _ _) | (with_reducible apply Below.drew) | (with_reducible apply below_alloc) | ((with_reducible refine Below.alloc ?_ ?_ _); rotate_left; focus (first | (simp; done) | (simp; omega) | omega)) | ((with_reducible refine Below.setCell ?_ ?_ _); rotate_left; focus (first | (simp; done) | (simp; omega) | omega)))) hb
  have R : Blk _ (w.heap.size + 1) _ _ := Blk.step (by repeat (first | ((with_reducible apply Blk.new); focus (first | rfl | (simp; done) | (simp; omega))) | (with_reducible apply Blk.drew) | (with_reducible apply Blk.alloc) | (with_reducible apply Blk.set_) | ((with_reducible apply Blk.far); rotate_left; focus (first | (simp; done) | (simp; omega) | omega)))) hb
  obtain ⟨r0, r1, r2, r3, rz⟩ := cells4 R
  have rl := Blk.lt R
  have HR := Lib.hid R
  clear R
  clear hb
  go_wp2_with fail
  refine bodyPost_ret (v := .tuple #[noTop, .int .i64 8]) (by simp [noTop, results, Try.results23, go_sem, r0, r1, r2, r3]) rfl (topEnd1_zero 8 rfl ?_)
  repeat (first | (with_reducible exact HB.out) | (with_reducible exact Below.refl _ _) | (with_reducible apply Below.drew) | (with_reducible apply below_alloc) | ((with_reducible refine Below.alloc ?_ ?_ _); rotate_left; focus (first | (simp; done) | (simp; omega) | omega)) | ((with_reducible refine Below.setCell ?_ ?_ _); rotate_left; focus (first | (simp; done) | (simp; omega) | omega)))

set_option maxHeartbeats 2000000 in
set_option maxRecDepth 100000 in
theorem compact_arg {v : Value} {t : Top} {w : World} (to : Int) (h : TopR w v t) (hk : ∀ x ∈ t.ents, x.key.size ≤ maxLen) (hm : t.may) (hto : to < 0 ∨ 1073741824 < to) :
    Calls Try.prog 23 #[v, .int .i64 to] w (TopEnd1 Top.zero 2 w) := by
  have T := Lib.hid h
  have HK := Lib.hid hk
  have HM := Lib.hid hm
  obtain ⟨a, cap, rfl, _⟩ := h
  clear hk hm
  have hto2 : to < 0 ∨ (0 ≤ to ∧ 1073741824 < to) := by omega
  clear hto
  rcases hto2 with h1 | ⟨h1, h2⟩
  all_goals
    go_enter Try.func23, Try.ntmps23
    go_wp2_with fail
    refine Calls.mono (check_yes ?_ HK.out HM.out) ?_
    · exact T.out.below (by repeat (first | (with_reducible exact Below.refl _ _) | (with_reducible exact Below.refl _ _) | (with_reducible apply Below.drew) | (with_reducible apply below_alloc) | ((with_reducible refine Below.alloc ?_ ?_ _); rotate_left; focus (first | (simp; done) | (simp; omega) | omega)) | ((with_reducible refine Below.setCell ?_ ?_ _); rotate_left; focus (first | (simp; done) | (simp; omega) | omega))))
    rintro e w2 ⟨rfl, hb⟩
    have HB : Hid (Below w.heap.size w _) := below_step (by repeat (first | (with_reducible exact Below.refl _ _) | (with_reducible exact Below.refl _ _) | (with_reducible apply Below.drew) | (with_reducible apply below_alloc) | ((with_reducible refine Below.alloc ?_ ?_ _); rotate_left; focus (first | (simp; done) | (simp; omega) | omega)) | ((with_reducible refine Below.setCell ?_ ?_ _); rotate_left; focus (first | (simp; done) | (simp; omega) | omega)))) hb
    have R : Blk _ (w.heap.size + 1) _ _ := Blk.step (by repeat (first | ((with_reducible apply Blk.new); focus (first | rfl | (simp; done) | (simp; omega))) | (with_reducible apply Blk.drew) | (with_reducible apply Blk.alloc) | (with_reducible apply Blk.set_) | ((with_reducible apply Blk.far); rotate_left; focus (first | (simp; done) | (simp; omega) | omega)))) hb
    obtain ⟨r0, r1, r2, r3, rz⟩ := cells4 R
    have rl := Blk.lt R
    have HR := Lib.hid R
    clear R
    clear hb
    go_wp2_with fail
    refine bodyPost_ret (v := .tuple #[noTop, .int .i64 2]) (by simp [noTop, results, Try.results23, go_sem, r0, r1, r2, r3]) rfl (topEnd1_zero 2 rfl ?_)
    repeat (first | (with_reducible exact HB.out) | (with_reducible exact Below.refl _ _) | (with_reducible apply Below.drew) | (with_reducible apply below_alloc) | ((with_reducible refine Below.alloc ?_ ?_ _); rotate_left; focus (first | (simp; done) | (simp; omega) | omega)) | ((with_reducible refine Below.setCell ?_ ?_ _); rotate_left; focus (first | (simp; done) | (simp; omega) | omega)))
end Go.Proofs.Ytolgkadoplalnaa
