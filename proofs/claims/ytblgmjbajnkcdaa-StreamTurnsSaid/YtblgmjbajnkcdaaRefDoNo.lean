/-
  ref21.Do.
-/
import Derived.Test.YtblgmjbajnkcdaaStrDoP
import Derived.Test.YtblgmjbajnkcdaaStrWith
import Derived.Test.YtblgmjbajnkcdaaRefStrTwin
import Derived.Test.YtblgmjbajnkcdaaRefStrMay
import Derived.Test.YtblgmjbajnkcdaaBunF
import Derived.Test.YtblgmjbajnkcdaaBunI
import Derived.Test.YtblgmjbajnkcdaaBunK
import Derived.Deep.RegionHeld3
namespace Go.Proofs.Ytblgmjbajnkcdaa
open Go.RowKit

theorem askS_may {s : Str} {n : Int} (hm : mayS s) (h0 : 0 ≤ n) (h1 : n < 4) : askS s n = 0 := askS_zero.2 ⟨hm, h0, h1⟩
theorem topN_may {s : Str} {n : Int} (hm : mayS s) (h0 : 0 ≤ n) (h1 : n < 4) : (topN s n).may := hm.1.2 _ (topN_mem hm h0 h1)
def rightD (kind topic who n : Int) : Prop := ((kind = 5 ∨ kind = 6) ∨ (kind = 4 ∧ 0 ≤ who ∧ who < 8)) ∧ (0 ≤ topic ∧ topic < 4) ∧ 0 ≤ n ∧ n ≤ 1073741824
theorem doS_no {s : Str} {kind topic who n : Int} (hm : mayS s) (h : ¬ rightD kind topic who n) : doS s kind topic who n = (Str.zero, 2) := by
  unfold doS
  by_cases ht : 0 ≤ topic ∧ topic < 4
  · have hmt := topN_may hm ht.1 ht.2
    rw [if_pos (askS_may hm ht.1 ht.2)]
    by_cases h4 : kind = 4
    · rw [if_pos h4, commitS, if_pos]
      unfold rightD at h
      omega
    · rw [if_neg h4]
      by_cases hn : n < 0 ∨ 1073741824 < n
      · rw [trimP_arg hmt hn, compactP_arg hmt hn]
        simp [turnS]
      · rw [if_neg (by unfold rightD at h; omega), if_neg (by unfold rightD at h; omega)]
  · have e : askS s topic = 2 := by rw [askS, if_pos hm, if_neg ht]
    rw [if_neg (by rw [e]; decide), e]
theorem doS_bad {s : Str} {kind topic who n : Int} (hm : ¬ mayS s) : doS s kind topic who n = (Str.zero, 8) := by
  have e : askS s topic = 8 := by rw [askS, if_neg hm]
  rw [doS, if_neg (by rw [e]; decide), e]

set_option maxHeartbeats 8000000 in
set_option maxRecDepth 100000 in
theorem refDo_bad {v : Value} {s : Str} {w : World} {kind mid mt id time : Int} {ga ma : Option Addr} {gn gc mn mc : Nat} {mk mb : ByteArray} (topic who n : Int) (h : StrR w v s) (hm : ¬ mayS s) :
    Calls Try.prog 23 #[v, .agg #[.int .u8 kind, .int .i64 mid, .slice ga gn gc, .int .i64 mt, .string mk, .string mb, .int .i64 id, .int .i64 time, .slice ma mn mc, .int .i64 topic, .int .i64 who, .int .i64 n]] w (DoEnd Str.zero 8 w) := by
  have HS := Lib.hid h
  have HM := Lib.hid (show false = decide (mayS s) by simp [hm])
  obtain ⟨a, cap, bb, nc, cc, rfl, -, -⟩ := h.shape
  clear h hm
  go_enter Try.func23, Try.ntmps23
  go_wp2_with fail
  refine Calls.mono (refStrMay_any ?_ HM.out) ?_
  · exact HS.out.below (by repeat (first | (with_reducible exact Below.refl _ _) | (with_reducible exact Below.refl _ _) | (with_reducible apply Below.drew) | (with_reducible apply below_alloc) | ((with_reducible refine Below.alloc ?_ ?_ _); rotate_left; focus (first | (simp; done) | (simp; omega) | omega)) | ((with_reducible refine Below.setCell ?_ ?_ _); rotate_left; focus (first | (simp; done) | (simp; omega) | omega))))
  rintro e w1 ⟨rfl, hb⟩
  have HB : Hid (Below w.heap.size w _) := below_step (by repeat (first | (with_reducible exact Below.refl _ _) | (with_reducible exact Below.refl _ _) | (with_reducible apply Below.drew) | (with_reducible apply below_alloc) | ((with_reducible refine Below.alloc ?_ ?_ _); rotate_left; focus (first | (simp; done) | (simp; omega) | omega)) | ((with_reducible refine Below.setCell ?_ ?_ _); rotate_left; focus (first | (simp; done) | (simp; omega) | omega)))) hb
  have R : Blk _ (w.heap.size + 2) _ _ := Blk.step (by repeat (first | ((with_reducible apply Blk.new); focus (first | rfl | (simp; done) | (simp; omega))) | (with_reducible apply Blk.drew) | (with_reducible apply Blk.alloc) | (with_reducible apply Blk.set_) | ((with_reducible apply Blk.far); rotate_left; focus (first | (simp; done) | (simp; omega) | omega)))) hb
  obtain ⟨r0, r1, rz⟩ := cells2 R
  have rl := Blk.lt R
  have HR := Lib.hid R
  clear R
  clear hb
  go_wp2_with fail
  refine bodyPost_ret (v := .tuple #[.agg #[.slice none 0 0, .slice none 0 0], .int .i64 8]) (by simp [results, Try.results23, go_sem, r0, r1]) rfl ⟨_, _, rfl, OwnS.zero _ _, ?_⟩
  repeat (first | (with_reducible exact HB.out) | (with_reducible exact Below.refl _ _) | (with_reducible apply Below.drew) | (with_reducible apply below_alloc) | ((with_reducible refine Below.alloc ?_ ?_ _); rotate_left; focus (first | (simp; done) | (simp; omega) | omega)) | ((with_reducible refine Below.setCell ?_ ?_ _); rotate_left; focus (first | (simp; done) | (simp; omega) | omega)))

set_option maxHeartbeats 8000000 in
set_option maxRecDepth 100000 in
theorem refDo_no {v : Value} {s : Str} {w : World} {kind mid mt id time : Int} {ga ma : Option Addr} {gn gc mn mc : Nat} {mk mb : ByteArray} (topic who n : Int) (h : StrR w v s) (hm : mayS s) (hr : ¬ rightD kind topic who n) :
    Calls Try.prog 23 #[v, .agg #[.int .u8 kind, .int .i64 mid, .slice ga gn gc, .int .i64 mt, .string mk, .string mb, .int .i64 id, .int .i64 time, .slice ma mn mc, .int .i64 topic, .int .i64 who, .int .i64 n]] w (DoEnd Str.zero 2 w) := by
  have HS := Lib.hid h
  have HM := Lib.hid (show true = decide (mayS s) by simp [hm])
  obtain ⟨a, cap, bb, nc, cc, rfl, -, -⟩ := h.shape
  have hc : ((¬ kind = 5 ∧ ¬ kind = 6) ∧ (¬ kind = 4 ∨ (kind = 4 ∧ (who < 0 ∨ (¬ who < 0 ∧ 8 ≤ who))))) ∨ (((kind = 5 ∨ kind = 6) ∨ (kind = 4 ∧ 0 ≤ who ∧ who < 8)) ∧ (topic < 0 ∨ (¬ topic < 0 ∧ 4 ≤ topic) ∨ ((¬ topic < 0 ∧ ¬ 4 ≤ topic ∧ n < 0) ∨ (¬ topic < 0 ∧ ¬ 4 ≤ topic ∧ ¬ n < 0 ∧ 1073741824 < n)))) := by
    unfold rightD at hr
    omega
  clear h hm hr
  rcases hc with ⟨⟨k5, k6⟩, (k4 | ⟨rfl, (h1 | ⟨h1, h2⟩)⟩)⟩ | ⟨((rfl | rfl) | ⟨rfl, h1, h2⟩), (h3 | ⟨h3, h4⟩ | (⟨h3, h4, h5⟩ | ⟨h3, h4, h5, h6⟩))⟩
  all_goals
    go_enter Try.func23, Try.ntmps23
    go_wp2_with fail
    refine Calls.mono (refStrMay_any ?_ HM.out) ?_
    · exact HS.out.below (by repeat (first | (with_reducible exact Below.refl _ _) | (with_reducible exact Below.refl _ _) | (with_reducible apply Below.drew) | (with_reducible apply below_alloc) | ((with_reducible refine Below.alloc ?_ ?_ _); rotate_left; focus (first | (simp; done) | (simp; omega) | omega)) | ((with_reducible refine Below.setCell ?_ ?_ _); rotate_left; focus (first | (simp; done) | (simp; omega) | omega))))
    rintro e w1 ⟨rfl, hb⟩
    have HB : Hid (Below w.heap.size w _) := below_step (by repeat (first | (with_reducible exact Below.refl _ _) | (with_reducible exact Below.refl _ _) | (with_reducible apply Below.drew) | (with_reducible apply below_alloc) | ((with_reducible refine Below.alloc ?_ ?_ _); rotate_left; focus (first | (simp; done) | (simp; omega) | omega)) | ((with_reducible refine Below.setCell ?_ ?_ _); rotate_left; focus (first | (simp; done) | (simp; omega) | omega)))) hb
    have HC : Hid (Blk w1 (w.heap.size + 1) 52 _) := Blk.step (by repeat (first | (with_reducible exact Blk.new rfl) | ((with_reducible apply Blk.new); focus (first | rfl | (simp; done) | (simp; omega))) | (with_reducible apply Blk.drew) | (with_reducible apply Blk.alloc) | (with_reducible apply Blk.set_) | ((with_reducible apply Blk.far); rotate_left; focus (first | (simp; done) | (simp; omega) | omega)))) hb
    have R : Blk _ (w.heap.size + 2) _ _ := Blk.step (by repeat (first | ((with_reducible apply Blk.new); focus (first | rfl | (simp; done) | (simp; omega))) | (with_reducible apply Blk.drew) | (with_reducible apply Blk.alloc) | (with_reducible apply Blk.set_) | ((with_reducible apply Blk.far); rotate_left; focus (first | (simp; done) | (simp; omega) | omega)))) hb
    obtain ⟨r0, r1, rz⟩ := cells2 R
    have rl := Blk.lt R
    have HR := Lib.hid R
    clear R
    obtain ⟨⟨⟨d0, -, -, -⟩, -, -, d9, d10, d11⟩, dz⟩ := cells12 HC.out
    clear hb
    go_wp2_with fail
    refine bodyPost_ret (v := .tuple #[.agg #[.slice none 0 0, .slice none 0 0], .int .i64 2]) (by simp [results, Try.results23, go_sem, r0, r1]) rfl ⟨_, _, rfl, OwnS.zero _ _, ?_⟩
    repeat (first | (with_reducible exact HB.out) | (with_reducible exact Below.refl _ _) | (with_reducible apply Below.drew) | (with_reducible apply below_alloc) | ((with_reducible refine Below.alloc ?_ ?_ _); rotate_left; focus (first | (simp; done) | (simp; omega) | omega)) | ((with_reducible refine Below.setCell ?_ ?_ _); rotate_left; focus (first | (simp; done) | (simp; omega) | omega)))

end Go.Proofs.Ytblgmjbajnkcdaa
