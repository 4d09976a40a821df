/-
  stream.commit, behind stream.Do's own look at the topics.
-/
import Derived.Test.YtblgmjbajnkcdaaStrDoP
import Derived.Test.YtblgmjbajnkcdaaStrTwin
namespace Go.Proofs.Ytblgmjbajnkcdaa
open Go.RowKit

set_option maxHeartbeats 8000000 in
set_option maxRecDepth 100000 in
theorem strCommit_any {v : Value} {s u : Str} {w : World} {x kind mid mt id time : Int} {ga ma : Option Addr} {gn gc mn mc : Nat} {mk mb : ByteArray} (topic who n : Int) (h : StrR w v s) (ha : askS s topic = 0) (hu : commitS s topic who n = (u, x)) :
    Calls Try.prog 47 #[v, .agg #[.int .u8 kind, .int .i64 mid, .slice ga gn gc, .int .i64 mt, .string mk, .string mb, .int .i64 id, .int .i64 time, .slice ma mn mc, .int .i64 topic, .int .i64 who, .int .i64 n]] w (DoEnd u x w) := by
  have HS := Lib.hid h
  obtain ⟨a, cap, bb, nc, cc, rfl, hT, -⟩ := h.shape
  obtain ⟨hm, h0, h1⟩ := askS_zero.1 ha
  have h4 := hm.1.1
  have HF := Lib.hid (few_of_may hm)
  have HM := Lib.hid hm
  obtain ⟨i, rfl⟩ : ∃ i : Nat, topic = (i : Int) := ⟨topic.toNat, by omega⟩
  have HI := Lib.hid (show i < s.tops.length by omega)
  obtain ⟨⟨-, hcap, hmx⟩, g, off, rfl, hat⟩ := StrR.top hT (i := i) h0 (by omega)
  rw [show s.tops.getD (i : Int).toNat default = topN s i from rfl] at hat
  obtain ⟨t, ht⟩ : ∃ t, t = topN s i := ⟨_, rfl⟩
  rw [commitS, ← ht] at hu
  rw [← ht] at hat
  simp only [Int.toNat_natCast] at hat
  have HAT := Lib.hid hat
  have h5 : (i : Int) < (s.tops.length : Int) := by omega
  have hgw : g < w.heap.size := World.block_lt_of_cell? w _ hat.choose_spec.choose_spec.1.1.1.1
  unfold maxLen at hmx
  by_cases hb : who < 0 ∨ 8 ≤ who ∨ n < 0 ∨ 1073741824 < n
  · rw [if_pos hb] at hu
    cases hu
    clear h hT ha hm h4 ht hat
    go_enter Try.func47, Try.ntmps47
    by_cases c1 : who < 0
    rotate_left
    by_cases c2 : 8 ≤ who
    rotate_left
    by_cases c3 : n < 0
    rotate_left
    have c4 : 1073741824 < n := by omega
    all_goals
      go_wp2_with fail
      refine bodyPost_ret (v := .tuple #[.agg #[.slice none 0 0, .slice none 0 0], .int .i64 2]) (by simp [results, Try.results47, go_sem]) rfl ⟨_, _, rfl, OwnS.zero _ _, ?_⟩
      repeat (first | (with_reducible exact Below.refl _ _) | (with_reducible exact Below.refl _ _) | (with_reducible apply Below.drew) | (with_reducible apply below_alloc) | ((with_reducible refine Below.alloc ?_ ?_ _); rotate_left; focus (first | (simp; done) | (simp; omega) | omega)) | ((with_reducible refine Below.setCell ?_ ?_ _); rotate_left; focus (first | (simp; done) | (simp; omega) | omega)))
  · rw [if_neg hb] at hu
    have b1 : ¬ who < 0 := by omega
    have b2 : ¬ 8 ≤ who := by omega
    have b3 : ¬ n < 0 := by omega
    have b4 : ¬ 1073741824 < n := by omega
    obtain ⟨ea, ecap, ⟨⟨⟨c0, c1⟩, c2⟩, c3⟩, -⟩ := HAT.out
    obtain ⟨nx, hnx⟩ : ∃ nx, nx = t.next := ⟨_, rfl⟩
    rw [← hnx] at hu c1
    have HNX := Lib.hid hnx
    clear hnx
    have d1 : ((((w.alloc (.cells #[.slice (some ⟨g, off, none⟩) s.tops.length cap, .slice bb nc cc] 25)).alloc (.cells #[.int .u8 kind, .int .i64 mid, .slice ga gn gc, .int .i64 mt, .string mk, .string mb, .int .i64 id, .int .i64 time, .slice ma mn mc, .int .i64 (i : Int), .int .i64 who, .int .i64 n] 52)).alloc (.cells #[.slice none 0 0, .slice none 0 0] 25)).drew).cell? ⟨g, off + i * 4 + 1, none⟩ = some (.int .i64 nx) := (Below.cell (B := w.heap.size) (by repeat (first | (with_reducible exact Below.refl _ _) | (with_reducible exact Below.refl _ _) | (with_reducible apply Below.drew) | (with_reducible apply below_alloc) | ((with_reducible refine Below.alloc ?_ ?_ _); rotate_left; focus (first | (simp; done) | (simp; omega) | omega)) | ((with_reducible refine Below.setCell ?_ ?_ _); rotate_left; focus (first | (simp; done) | (simp; omega) | omega)))) hgw).trans c1
    have g0 : g ≠ w.heap.size := by omega
    have g1 : g ≠ w.heap.size + 1 := by omega
    have g2 : g ≠ w.heap.size + 1 + 1 := by omega
    by_cases hn : nx < n
    · rw [if_pos hn] at hu
      cases hu
      clear h hT ha hm h4 ht hat hb
      go_enter Try.func47, Try.ntmps47
      go_wp2_with fail
      go_region
      go_wp2_with fail
      refine bodyPost_ret (v := .tuple #[.agg #[.slice none 0 0, .slice none 0 0], .int .i64 170]) (by simp [results, Try.results47, go_sem]) rfl ⟨_, _, rfl, OwnS.zero _ _, ?_⟩
      repeat (first | (with_reducible exact Below.refl _ _) | (with_reducible exact Below.refl _ _) | (with_reducible apply Below.drew) | (with_reducible apply below_alloc) | ((with_reducible refine Below.alloc ?_ ?_ _); rotate_left; focus (first | (simp; done) | (simp; omega) | omega)) | ((with_reducible refine Below.setCell ?_ ?_ _); rotate_left; focus (first | (simp; done) | (simp; omega) | omega)))
    · rw [if_neg hn] at hu
      cases hu
      have HOK := Lib.hid (show okC s.coms = true from hm.2.1)
      have e0 : (0 : Int) ≤ who := by omega
      have e1 : who < 8 := by omega
      have e2 : 0 ≤ n := by omega
      have e3 : n ≤ 1073741824 := by omega
      have HE := Lib.hid (show (0 ≤ who ∧ who < 8) ∧ 0 ≤ n ∧ n ≤ 1073741824 from ⟨⟨e0, e1⟩, e2, e3⟩)
      clear h hT ha hm h4 ht hat hb e0 e1 e2 e3
      go_enter Try.func47, Try.ntmps47
      go_wp2_with fail
      go_region
      go_wp2_with fail
      refine Calls.mono (strTwin_any (s := s) ?_ HF.out) ?_
      · exact HS.out.below (by repeat (first | (with_reducible exact Below.refl _ _) | (with_reducible exact Below.refl _ _) | (with_reducible apply Below.drew) | (with_reducible apply below_alloc) | ((with_reducible refine Below.alloc ?_ ?_ _); rotate_left; focus (first | (simp; done) | (simp; omega) | omega)) | ((with_reducible refine Below.setCell ?_ ?_ _); rotate_left; focus (first | (simp; done) | (simp; omega) | omega))))
      rintro e w1 ⟨ta, tc, rfl, os, hb⟩
      obtain ⟨a1, cap1, b1, nc1, cc1, ev, -, -⟩ := os.reads.shape
      cases ev
      clear d1 c0 c1 c2 c3
      have HB : Hid (Below w.heap.size w _) := below_step (by repeat (first | (with_reducible exact Below.refl _ _) | (with_reducible exact Below.refl _ _) | (with_reducible apply Below.drew) | (with_reducible apply below_alloc) | ((with_reducible refine Below.alloc ?_ ?_ _); rotate_left; focus (first | (simp; done) | (simp; omega) | omega)) | ((with_reducible refine Below.setCell ?_ ?_ _); rotate_left; focus (first | (simp; done) | (simp; omega) | omega)))) hb
      have P : Blk _ (w.heap.size) _ _ := Blk.step (by repeat (first | ((with_reducible apply Blk.new); focus (first | rfl | (simp; done) | (simp; omega))) | (with_reducible apply Blk.drew) | (with_reducible apply Blk.alloc) | (with_reducible apply Blk.set_) | ((with_reducible apply Blk.far); rotate_left; focus (first | (simp; done) | (simp; omega) | omega)))) hb
      obtain ⟨p0, p1, pz⟩ := cells2 P
      have pl := Blk.lt P
      have HP := Lib.hid P
      clear P
      have HC : Hid (Blk w1 (w.heap.size + 1) 52 [.int .u8 kind, .int .i64 mid, .slice ga gn gc, .int .i64 mt, .string mk, .string mb, .int .i64 id, .int .i64 time, .slice ma mn mc, .int .i64 (i : Int), .int .i64 who, .int .i64 n]) := Blk.step (by repeat (first | (with_reducible exact Blk.new rfl) | ((with_reducible apply Blk.new); focus (first | rfl | (simp; done) | (simp; omega))) | (with_reducible apply Blk.drew) | (with_reducible apply Blk.alloc) | (with_reducible apply Blk.set_) | ((with_reducible apply Blk.far); rotate_left; focus (first | (simp; done) | (simp; omega) | omega)))) hb
      have R : Blk _ (w.heap.size + 2) _ _ := Blk.step (by repeat (first | ((with_reducible apply Blk.new); focus (first | rfl | (simp; done) | (simp; omega))) | (with_reducible apply Blk.drew) | (with_reducible apply Blk.alloc) | (with_reducible apply Blk.set_) | ((with_reducible apply Blk.far); rotate_left; focus (first | (simp; done) | (simp; omega) | omega)))) hb
      obtain ⟨r0, r1, rz⟩ := cells2 R
      have rl := Blk.lt R
      have HR := Lib.hid R
      clear R
      obtain ⟨⟨-, -, -, d9, d10, d11⟩, dz⟩ := cells12 HC.out
      have cl := HC.out.lt
      obtain ⟨_, _, ev, ot, oc⟩ := os
      cases ev
      have OT : Hid (OwnT w1 (w.heap.size + 3) _ _) := ot.le (by simp)
      have OC : Hid (OwnC w1 (w.heap.size + 3) _ _) := OwnRows.le oc (by simp)
      clear hb ot oc
      go_wp2_with fail
      have OT1 := Lib.hid ((OT.out.far (b := w.heap.size) (o := 0) (u := .slice a1 s.tops.length cap1) (by omega)).far (b := w.heap.size) (o := 1) (u := .slice b1 nc1 cc1) (by omega))
      have OC1 := Lib.hid (OwnC.far (b := w.heap.size) (o := 1) (u := .slice b1 nc1 cc1) (OwnC.far (b := w.heap.size) (o := 0) (u := .slice a1 s.tops.length cap1) OC.out (by omega)) (by omega))
      refine Calls.mono (set_yes (m := s.coms) (i : Int) who n OC1.out.reads HOK.out h0 h1 HE.out.1.1 HE.out.1.2 HE.out.2.1 HE.out.2.2) ?_
      rintro e w2 ⟨vc, rfl, oc, hb⟩
      obtain ⟨ac, nac, cac, rfl⟩ := oc.reads.shape
      have hz : w.heap.size + 3 ≤ w1.heap.size := rl
      clear p0 p1 pz pl r0 r1 rz rl d9 d10 d11 dz cl
      have HB2 : Hid (Below w.heap.size w _) := below_step (by repeat (first | (with_reducible exact HB.out) | (with_reducible exact Below.refl _ _) | (with_reducible apply Below.drew) | (with_reducible apply below_alloc) | ((with_reducible refine Below.alloc ?_ ?_ _); rotate_left; focus (first | (simp; done) | (simp; omega) | omega)) | ((with_reducible refine Below.setCell ?_ ?_ _); rotate_left; focus (first | (simp; done) | (simp; omega) | omega)))) hb
      have P : Blk _ (w.heap.size) _ _ := Blk.step (by repeat (first | (with_reducible exact HP.out) | ((with_reducible apply Blk.new); focus (first | rfl | (simp; done) | (simp; omega))) | (with_reducible apply Blk.drew) | (with_reducible apply Blk.alloc) | (with_reducible apply Blk.set_) | ((with_reducible apply Blk.far); rotate_left; focus (first | (simp; done) | (simp; omega) | omega)))) hb
      try simp only [List.set_cons_zero, List.set_cons_succ] at P
      obtain ⟨p0, p1, pz⟩ := cells2 P
      have pl := Blk.lt P
      have HP := Lib.hid P
      clear P
      have R : Blk _ (w.heap.size + 2) _ _ := Blk.step (by repeat (first | (with_reducible exact HR.out) | ((with_reducible apply Blk.new); focus (first | rfl | (simp; done) | (simp; omega))) | (with_reducible apply Blk.drew) | (with_reducible apply Blk.alloc) | (with_reducible apply Blk.set_) | ((with_reducible apply Blk.far); rotate_left; focus (first | (simp; done) | (simp; omega) | omega)))) hb
      try simp only [List.set_cons_zero, List.set_cons_succ] at R
      obtain ⟨r0, r1, rz⟩ := cells2 R
      have rl := Blk.lt R
      have HR := Lib.hid R
      clear R
      have OT2 := Lib.hid (OT1.out.keep hb)
      have OC2 : Hid (OwnC w2 (w.heap.size + 3) _ _) := Lib.hid (OwnRows.le oc (by simp; omega))
      clear hb oc
      go_wp2_with fail
      have HP3 := HP.out.set_ 1 (.slice ac nac cac)
      have HR3 := HR.out.far (b := w.heap.size) (o := 1) (by omega) (.slice ac nac cac)
      have OT3 := OT2.out.far (b := w.heap.size) (o := 1) (u := .slice ac nac cac) (by omega)
      have OC3 := OwnC.far (b := w.heap.size) (o := 1) (u := .slice ac nac cac) OC2.out (by omega)
      have HR4 := HR3.set_ 0 (.slice a1 s.tops.length cap1)
      obtain ⟨t0, t1, -⟩ := cells2 (HR4.set_ 1 (.slice ac nac cac))
      refine bodyPost_ret (v := .tuple #[.agg #[.slice a1 s.tops.length cap1, .slice ac nac cac], .int .i64 0]) (by simp [results, Try.results47, go_sem, t0, t1]) rfl ⟨_, _, rfl, ⟨_, _, rfl, ?_, ?_⟩, ?_⟩
      · exact OwnT.le ((OT3.far (by omega)).far (by omega)) (by omega)
      · exact OwnRows.le (OwnC.far (OwnC.far OC3 (by omega)) (by omega)) (by omega)
      · exact ((HB2.out.setCell (p := ⟨w.heap.size, 1, none⟩) (by simp) _).setCell (p := ⟨w.heap.size + 2, 0, none⟩) (by simp) _).setCell (p := ⟨w.heap.size + 2, 1, none⟩) (by simp) _
end Go.Proofs.Ytblgmjbajnkcdaa
