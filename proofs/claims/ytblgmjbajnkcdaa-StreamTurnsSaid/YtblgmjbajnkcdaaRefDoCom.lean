/-
  ref21.Do: a consumer farther on.
-/
import Derived.Test.YtblgmjbajnkcdaaRefDoNo
namespace Go.Proofs.Ytblgmjbajnkcdaa
open Go.RowKit

set_option maxHeartbeats 8000000 in
set_option maxRecDepth 100000 in
theorem refDo_com {v : Value} {s u : Str} {w : World} {x mid mt id time : Int} {ga ma : Option Addr} {gn gc mn mc : Nat} {mk mb : ByteArray} {i : Nat} (who n : Int) (h : StrR w v s) (hm : mayS s) (hi : i < 4) (e0 : 0 ≤ who) (e1 : who < 8) (e2 : 0 ≤ n) (e3 : n ≤ 1073741824)
    (hu : (if (topN s (i : Int)).next < n then (Str.zero, 170) else (⟨s.tops, setC s.coms (i : Int) who n⟩, 0)) = (u, x)) :
    Calls Try.prog 23 #[v, .agg #[.int .u8 4, .int .i64 mid, .slice ga gn gc, .int .i64 mt, .string mk, .string mb, .int .i64 id, .int .i64 time, .slice ma mn mc, .int .i64 (i : Int), .int .i64 who, .int .i64 n]] w (DoEnd u x w) := by
  have HS := Lib.hid h
  have HM := Lib.hid (show true = decide (mayS s) by simp [hm])
  have HF := Lib.hid (few_of_may hm)
  obtain ⟨a, cap, bb, nc, cc, rfl, hT, -⟩ := h.shape
  have h4 := hm.1.1
  have h1 : (i : Int) < 4 := by omega
  have h0 : 0 ≤ (i : Int) := by omega
  obtain ⟨⟨-, hcap, hmx⟩, g, off, rfl, hat⟩ := StrR.top hT (i := i) h0 (by omega)
  rw [show s.tops.getD (i : Int).toNat default = topN s i from rfl] at hat
  obtain ⟨t, ht⟩ : ∃ t, t = topN s i := ⟨_, rfl⟩
  rw [← ht] at hat hu
  simp only [Int.toNat_natCast] at hat
  have HI := Lib.hid (show i < s.tops.length by omega)
  have HAT := Lib.hid hat
  have h5 : (i : Int) < (s.tops.length : Int) := by omega
  have hgw : g < w.heap.size := World.block_lt_of_cell? w _ hat.choose_spec.choose_spec.1.1.1.1
  unfold maxLen at hmx
  obtain ⟨nx, hnx⟩ : ∃ nx, nx = t.next := ⟨_, rfl⟩
  rw [← hnx] at hu
  have HNX := Lib.hid hnx
  have HOK := Lib.hid (show okC s.coms = true from hm.2.1)
  clear h hm h4 hi hT ht hat hnx
  by_cases hn : nx < n
  all_goals
    first | rw [if_pos hn] at hu | rw [if_neg hn] at hu
    cases hu
    have hn' := Lib.hid hn
    go_enter Try.func23, Try.ntmps23
    go_wp2_with fail
    refine Calls.mono (refStrMay_any ?_ HM.out) ?_
    · exact HS.out.below (by repeat (first | (with_reducible exact Below.refl _ _) | (with_reducible exact Below.refl _ _) | (with_reducible apply Below.drew) | (with_reducible apply below_alloc) | ((with_reducible refine Below.alloc ?_ ?_ _); rotate_left; focus (first | (simp; done) | (simp; omega) | omega)) | ((with_reducible refine Below.setCell ?_ ?_ _); rotate_left; focus (first | (simp; done) | (simp; omega) | omega))))
    rintro e w1 ⟨rfl, hb⟩
    have HB : Hid (Below w.heap.size w _) := below_step (by repeat (first | (with_reducible exact Below.refl _ _) | (with_reducible exact Below.refl _ _) | (with_reducible apply Below.drew) | (with_reducible apply below_alloc) | ((with_reducible refine Below.alloc ?_ ?_ _); rotate_left; focus (first | (simp; done) | (simp; omega) | omega)) | ((with_reducible refine Below.setCell ?_ ?_ _); rotate_left; focus (first | (simp; done) | (simp; omega) | omega)))) hb
    have P : Blk _ (w.heap.size) _ _ := Blk.step (by repeat (first | ((with_reducible apply Blk.new); focus (first | rfl | (simp; done) | (simp; omega))) | (with_reducible apply Blk.drew) | (with_reducible apply Blk.alloc) | (with_reducible apply Blk.set_) | ((with_reducible apply Blk.far); rotate_left; focus (first | (simp; done) | (simp; omega) | omega)))) hb
    obtain ⟨p0, p1, pz⟩ := cells2 P
    have pl := Blk.lt P
    have HP := Lib.hid P
    clear P
    have HC : Hid (Blk w1 (w.heap.size + 1) 52 [.int .u8 4, .int .i64 mid, .slice ga gn gc, .int .i64 mt, .string mk, .string mb, .int .i64 id, .int .i64 time, .slice ma mn mc, .int .i64 (i : Int), .int .i64 who, .int .i64 n]) := Blk.step (by repeat (first | (with_reducible exact Blk.new rfl) | ((with_reducible apply Blk.new); focus (first | rfl | (simp; done) | (simp; omega))) | (with_reducible apply Blk.drew) | (with_reducible apply Blk.alloc) | (with_reducible apply Blk.set_) | ((with_reducible apply Blk.far); rotate_left; focus (first | (simp; done) | (simp; omega) | omega)))) hb
    have R : Blk _ (w.heap.size + 2) _ _ := Blk.step (by repeat (first | ((with_reducible apply Blk.new); focus (first | rfl | (simp; done) | (simp; omega))) | (with_reducible apply Blk.drew) | (with_reducible apply Blk.alloc) | (with_reducible apply Blk.set_) | ((with_reducible apply Blk.far); rotate_left; focus (first | (simp; done) | (simp; omega) | omega)))) hb
    obtain ⟨r0, r1, rz⟩ := cells2 R
    have rl := Blk.lt R
    have HR := Lib.hid R
    clear R
    obtain ⟨⟨⟨d0, -, -, -⟩, -, -, d9, d10, d11⟩, dz⟩ := cells12 HC.out
    have cl := HC.out.lt
    clear hb
    go_wp2_with fail
    refine Calls.mono (refStrTwin_any (s := s) ?_ HF.out) ?_
    · exact HS.out.below (by repeat (first | (with_reducible exact HB.out) | (with_reducible exact Below.refl _ _) | (with_reducible apply Below.drew) | (with_reducible apply below_alloc) | ((with_reducible refine Below.alloc ?_ ?_ _); rotate_left; focus (first | (simp; done) | (simp; omega) | omega)) | ((with_reducible refine Below.setCell ?_ ?_ _); rotate_left; focus (first | (simp; done) | (simp; omega) | omega))))
    rintro e w2 ⟨ta, tc, rfl, os, hb⟩
    obtain ⟨a2, cap2, b2, nc2, cc2, ev, -, -⟩ := os.reads.shape
    cases ev
    have hz : w.heap.size + 2 < w1.heap.size := rl
    clear p0 p1 pz pl d0 d9 d10 d11 dz cl r0 r1 rz rl
    have HB2 : Hid (Below w.heap.size w _) := below_step (by repeat (first | (with_reducible exact HB.out) | (with_reducible exact Below.refl _ _) | (with_reducible apply Below.drew) | (with_reducible apply below_alloc) | ((with_reducible refine Below.alloc ?_ ?_ _); rotate_left; focus (first | (simp; done) | (simp; omega) | omega)) | ((with_reducible refine Below.setCell ?_ ?_ _); rotate_left; focus (first | (simp; done) | (simp; omega) | omega)))) hb
    have P : Blk _ (w.heap.size) _ _ := Blk.step (by repeat (first | (with_reducible exact HP.out) | ((with_reducible apply Blk.new); focus (first | rfl | (simp; done) | (simp; omega))) | (with_reducible apply Blk.drew) | (with_reducible apply Blk.alloc) | (with_reducible apply Blk.set_) | ((with_reducible apply Blk.far); rotate_left; focus (first | (simp; done) | (simp; omega) | omega)))) hb
    try simp only [List.set_cons_zero, List.set_cons_succ] at P
    obtain ⟨p0, p1, pz⟩ := cells2 P
    have pl := Blk.lt P
    have HP := Lib.hid P
    clear P
    have HC2 : Hid (Blk w2 (w.heap.size + 1) 52 [.int .u8 4, .int .i64 mid, .slice ga gn gc, .int .i64 mt, .string mk, .string mb, .int .i64 id, .int .i64 time, .slice ma mn mc, .int .i64 (i : Int), .int .i64 who, .int .i64 n]) := Blk.step (by repeat (first | (with_reducible exact HC.out) | ((with_reducible apply Blk.new); focus (first | rfl | (simp; done) | (simp; omega))) | (with_reducible apply Blk.drew) | (with_reducible apply Blk.alloc) | (with_reducible apply Blk.set_) | ((with_reducible apply Blk.far); rotate_left; focus (first | (simp; done) | (simp; omega) | omega)))) hb
    have R : Blk _ (w.heap.size + 2) _ _ := Blk.step (by repeat (first | (with_reducible exact HR.out) | ((with_reducible apply Blk.new); focus (first | rfl | (simp; done) | (simp; omega))) | (with_reducible apply Blk.drew) | (with_reducible apply Blk.alloc) | (with_reducible apply Blk.set_) | ((with_reducible apply Blk.far); rotate_left; focus (first | (simp; done) | (simp; omega) | omega)))) hb
    try simp only [List.set_cons_zero, List.set_cons_succ] at R
    obtain ⟨r0, r1, rz⟩ := cells2 R
    have rl := Blk.lt R
    have HR := Lib.hid R
    clear R
    obtain ⟨⟨⟨d0, -, -, -⟩, -, -, d9, d10, d11⟩, dz⟩ := cells12 HC2.out
    have cl := HC2.out.lt
    obtain ⟨_, _, ev, ot, oc⟩ := os
    cases ev
    have OT : Hid (OwnT w2 w1.heap.size _ _) := ot
    have OC : Hid (OwnC w2 w1.heap.size _ _) := oc
    obtain ⟨ea, ecap, ⟨⟨⟨-, c1⟩, -⟩, -⟩, -⟩ := HAT.out.keep HB2.out
    rw [← HNX.out] at c1
    have hz2 : w1.heap.size ≤ w2.heap.size := hb.size
    clear hb ot oc
    go_wp2_with fail
    have hg2 : g < w2.heap.size := by omega
    go_region
    go_wp2_with fail
  · obtain ⟨t0, t1, -⟩ := cells2 (((HR.out.set_ 0 (.slice none 0 0)).set_ 1 (.slice none 0 0)).alloc (.cells #[.slice a2 s.tops.length cap2, .slice b2 nc2 cc2] 25))
    refine bodyPost_ret (v := .tuple #[.agg #[.slice none 0 0, .slice none 0 0], .int .i64 170]) (by simp [results, Try.results23, go_sem, t0, t1]) rfl ⟨_, _, rfl, OwnS.zero _ _, ?_⟩
    repeat (first | (with_reducible exact HB2.out) | (with_reducible exact Below.refl _ _) | (with_reducible apply Below.drew) | (with_reducible apply below_alloc) | ((with_reducible refine Below.alloc ?_ ?_ _); rotate_left; focus (first | (simp; done) | (simp; omega) | omega)) | ((with_reducible refine Below.setCell ?_ ?_ _); rotate_left; focus (first | (simp; done) | (simp; omega) | omega)))
  · refine Calls.mono (refSet_yes (m := s.coms) (i : Int) who n ?_ HOK.out h0 h1 e0 e1 e2 e3) ?_
    · obtain ⟨_, _, ev, -, hR⟩ := HS.out
      cases ev
      exact hR.below (by repeat (first | (with_reducible exact HB2.out) | (with_reducible exact Below.refl _ _) | (with_reducible apply Below.drew) | (with_reducible apply below_alloc) | ((with_reducible refine Below.alloc ?_ ?_ _); rotate_left; focus (first | (simp; done) | (simp; omega) | omega)) | ((with_reducible refine Below.setCell ?_ ?_ _); rotate_left; focus (first | (simp; done) | (simp; omega) | omega))))
    rintro e w3 ⟨vc, rfl, oc, hb⟩
    obtain ⟨ac, nac, cac, rfl⟩ := oc.reads.shape
    clear p0 p1 pz pl r0 r1 rz rl d0 d9 d10 d11 dz cl
    have HB3 : Hid (Below w.heap.size w _) := below_step (by repeat (first | (with_reducible exact HB2.out) | (with_reducible exact Below.refl _ _) | (with_reducible apply Below.drew) | (with_reducible apply below_alloc) | ((with_reducible refine Below.alloc ?_ ?_ _); rotate_left; focus (first | (simp; done) | (simp; omega) | omega)) | ((with_reducible refine Below.setCell ?_ ?_ _); rotate_left; focus (first | (simp; done) | (simp; omega) | omega)))) hb
    have R : Blk _ (w.heap.size + 2) _ _ := Blk.step (by repeat (first | (with_reducible exact HR.out) | ((with_reducible apply Blk.new); focus (first | rfl | (simp; done) | (simp; omega))) | (with_reducible apply Blk.drew) | (with_reducible apply Blk.alloc) | (with_reducible apply Blk.set_) | ((with_reducible apply Blk.far); rotate_left; focus (first | (simp; done) | (simp; omega) | omega)))) hb
    try simp only [List.set_cons_zero, List.set_cons_succ] at R
    obtain ⟨r0, r1, rz⟩ := cells2 R
    have rl := Blk.lt R
    have HR := Lib.hid R
    clear R
    have Q : Blk _ (w2.heap.size) _ _ := Blk.step (by repeat (first | ((with_reducible apply Blk.new); focus (first | rfl | (simp; done) | (simp; omega))) | (with_reducible apply Blk.drew) | (with_reducible apply Blk.alloc) | (with_reducible apply Blk.set_) | ((with_reducible apply Blk.far); rotate_left; focus (first | (simp; done) | (simp; omega) | omega)))) hb
    obtain ⟨q0, q1, qz⟩ := cells2 Q
    have ql := Blk.lt Q
    have HQ := Lib.hid Q
    clear Q
    have OT3 := Lib.hid (OwnT.keep (OT.out.alloc (.cells #[.slice a2 s.tops.length cap2, .slice b2 nc2 cc2] 25)).drew hb)
    have OC3 : Hid (OwnC w3 (w2.heap.size + 1) _ _) := Lib.hid (OwnRows.le oc (by simp))
    clear hb oc
    go_wp2_with fail
    have HQ3 := HQ.out.set_ 1 (.slice ac nac cac)
    have HR3 := HR.out.far (b := w2.heap.size) (o := 1) (by omega) (.slice ac nac cac)
    have OT4 := OwnT.blk (u := .slice ac nac cac) (o := 1) OT3.out HQ.out (by decide) (by decide)
    have OC4 := OwnC.far (b := w2.heap.size) (o := 1) (u := .slice ac nac cac) OC3.out (by omega)
    have HR4 := HR3.set_ 0 (.slice a2 s.tops.length cap2)
    obtain ⟨t0, t1, -⟩ := cells2 (HR4.set_ 1 (.slice ac nac cac))
    refine bodyPost_ret (v := .tuple #[.agg #[.slice a2 s.tops.length cap2, .slice ac nac cac], .int .i64 0]) (by simp [results, Try.results23, go_sem, t0, t1]) rfl ⟨_, _, rfl, ⟨_, _, rfl, ?_, ?_⟩, ?_⟩
    · exact OwnT.le ((OT4.far (by omega)).far (by omega)) (by omega)
    · exact OwnRows.le (OwnC.far (OwnC.far OC4 (by omega)) (by omega)) (by omega)
    · exact ((HB3.out.setCell (p := ⟨w2.heap.size, 1, none⟩) (by simp; omega) _).setCell (p := ⟨w.heap.size + 2, 0, none⟩) (by simp) _).setCell (p := ⟨w.heap.size + 2, 1, none⟩) (by simp) _

end Go.Proofs.Ytblgmjbajnkcdaa
