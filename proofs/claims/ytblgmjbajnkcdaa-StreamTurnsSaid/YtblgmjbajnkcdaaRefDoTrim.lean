/-
  ref21.Do: something is let go.
-/
import Derived.Test.YtblgmjbajnkcdaaRefDoNo
namespace Go.Proofs.Ytblgmjbajnkcdaa
open Go.RowKit

set_option maxHeartbeats 8000000 in
set_option maxRecDepth 100000 in
theorem refDo_trim {v : Value} {s : Str} {t1 : Top} {w : World} {mid mt id time : Int} {ga ma : Option Addr} {gn gc mn mc : Nat} {mk mb : ByteArray} {i : Nat} (who n : Int) (h : StrR w v s) (hm : mayS s) (hi : i < 4) (e2 : 0 ≤ n) (e3 : n ≤ 1073741824)
    (hu : trimP (topN s (i : Int)) n = (t1, 0)) :
    Calls Try.prog 23 #[v, .agg #[.int .u8 5, .int .i64 mid, .slice ga gn gc, .int .i64 mt, .string mk, .string mb, .int .i64 id, .int .i64 time, .slice ma mn mc, .int .i64 (i : Int), .int .i64 who, .int .i64 n]] w (DoEnd ⟨s.tops.set i t1, s.coms⟩ 0 w) := by
  have HS := Lib.hid h
  have HM := Lib.hid (show true = decide (mayS s) by simp [hm])
  have HF := Lib.hid (few_of_may hm)
  obtain ⟨a, cap, bb, nc, cc, rfl, hT, -⟩ := h.shape
  have h4 := hm.1.1
  have h1 : (i : Int) < 4 := by omega
  have h0 : 0 ≤ (i : Int) := by omega
  obtain ⟨⟨-, hcap, hmx⟩, g, off, rfl, hat⟩ := StrR.top hT (i := i) h0 (by omega)
  rw [show s.tops.getD (i : Int).toNat default = topN s i from rfl] at hat
  obtain ⟨t, ht⟩ : ∃ t, t = topN s i := ⟨_, rfl⟩
  rw [← ht] at hat hu
  simp only [Int.toNat_natCast] at hat
  have HI := Lib.hid (show i < s.tops.length by omega)
  have HAT := Lib.hid hat
  have h5 : (i : Int) < (s.tops.length : Int) := by omega
  have hgw : g < w.heap.size := World.block_lt_of_cell? w _ hat.choose_spec.choose_spec.1.1.1.1
  unfold maxLen at hmx
  have HR1 := Lib.hid hu
  clear h hm h4 hi hT ht hat hu
  focus
    go_enter Try.func23, Try.ntmps23
    go_wp2_with fail
    refine Calls.mono (refStrMay_any ?_ HM.out) ?_
    · exact HS.out.below (by repeat (first | (with_reducible exact Below.refl _ _) | (with_reducible exact Below.refl _ _) | (with_reducible apply Below.drew) | (with_reducible apply below_alloc) | ((with_reducible refine Below.alloc ?_ ?_ _); rotate_left; focus (first | (simp; done) | (simp; omega) | omega)) | ((with_reducible refine Below.setCell ?_ ?_ _); rotate_left; focus (first | (simp; done) | (simp; omega) | omega))))
    rintro e w1 ⟨rfl, hb⟩
    have HB : Hid (Below w.heap.size w _) := below_step (by repeat (first | (with_reducible exact Below.refl _ _) | (with_reducible exact Below.refl _ _) | (with_reducible apply Below.drew) | (with_reducible apply below_alloc) | ((with_reducible refine Below.alloc ?_ ?_ _); rotate_left; focus (first | (simp; done) | (simp; omega) | omega)) | ((with_reducible refine Below.setCell ?_ ?_ _); rotate_left; focus (first | (simp; done) | (simp; omega) | omega)))) hb
    have P : Blk _ (w.heap.size) _ _ := Blk.step (by repeat (first | ((with_reducible apply Blk.new); focus (first | rfl | (simp; done) | (simp; omega))) | (with_reducible apply Blk.drew) | (with_reducible apply Blk.alloc) | (with_reducible apply Blk.set_) | ((with_reducible apply Blk.far); rotate_left; focus (first | (simp; done) | (simp; omega) | omega)))) hb
    obtain ⟨p0, p1, pz⟩ := cells2 P
    have pl := Blk.lt P
    have HP := Lib.hid P
    clear P
    have HC : Hid (Blk w1 (w.heap.size + 1) 52 [.int .u8 5, .int .i64 mid, .slice ga gn gc, .int .i64 mt, .string mk, .string mb, .int .i64 id, .int .i64 time, .slice ma mn mc, .int .i64 (i : Int), .int .i64 who, .int .i64 n]) := Blk.step (by repeat (first | (with_reducible exact Blk.new rfl) | ((with_reducible apply Blk.new); focus (first | rfl | (simp; done) | (simp; omega))) | (with_reducible apply Blk.drew) | (with_reducible apply Blk.alloc) | (with_reducible apply Blk.set_) | ((with_reducible apply Blk.far); rotate_left; focus (first | (simp; done) | (simp; omega) | omega)))) hb
    have R : Blk _ (w.heap.size + 2) _ _ := Blk.step (by repeat (first | ((with_reducible apply Blk.new); focus (first | rfl | (simp; done) | (simp; omega))) | (with_reducible apply Blk.drew) | (with_reducible apply Blk.alloc) | (with_reducible apply Blk.set_) | ((with_reducible apply Blk.far); rotate_left; focus (first | (simp; done) | (simp; omega) | omega)))) hb
    obtain ⟨r0, r1, rz⟩ := cells2 R
    have rl := Blk.lt R
    have HR := Lib.hid R
    clear R
    obtain ⟨⟨⟨d0, -, -, -⟩, -, -, d9, d10, d11⟩, dz⟩ := cells12 HC.out
    have cl := HC.out.lt
    clear hb
    go_wp2_with fail
    refine Calls.mono (refStrTwin_any (s := s) ?_ HF.out) ?_
    · exact HS.out.below (by repeat (first | (with_reducible exact HB.out) | (with_reducible exact Below.refl _ _) | (with_reducible apply Below.drew) | (with_reducible apply below_alloc) | ((with_reducible refine Below.alloc ?_ ?_ _); rotate_left; focus (first | (simp; done) | (simp; omega) | omega)) | ((with_reducible refine Below.setCell ?_ ?_ _); rotate_left; focus (first | (simp; done) | (simp; omega) | omega))))
    rintro e w2 ⟨ta, tc, rfl, os, hb⟩
    obtain ⟨a2, cap2, b2, nc2, cc2, ev, -, -⟩ := os.reads.shape
    cases ev
    have hz : w.heap.size + 2 < w1.heap.size := rl
    clear p0 p1 pz pl d0 d9 d10 d11 dz cl r0 r1 rz rl
    have HB2 : Hid (Below w.heap.size w _) := below_step (by repeat (first | (with_reducible exact HB.out) | (with_reducible exact Below.refl _ _) | (with_reducible apply Below.drew) | (with_reducible apply below_alloc) | ((with_reducible refine Below.alloc ?_ ?_ _); rotate_left; focus (first | (simp; done) | (simp; omega) | omega)) | ((with_reducible refine Below.setCell ?_ ?_ _); rotate_left; focus (first | (simp; done) | (simp; omega) | omega)))) hb
    have P : Blk _ (w.heap.size) _ _ := Blk.step (by repeat (first | (with_reducible exact HP.out) | ((with_reducible apply Blk.new); focus (first | rfl | (simp; done) | (simp; omega))) | (with_reducible apply Blk.drew) | (with_reducible apply Blk.alloc) | (with_reducible apply Blk.set_) | ((with_reducible apply Blk.far); rotate_left; focus (first | (simp; done) | (simp; omega) | omega)))) hb
    try simp only [List.set_cons_zero, List.set_cons_succ] at P
    obtain ⟨p0, p1, pz⟩ := cells2 P
    have pl := Blk.lt P
    have HP := Lib.hid P
    clear P
    have HC2 : Hid (Blk w2 (w.heap.size + 1) 52 [.int .u8 5, .int .i64 mid, .slice ga gn gc, .int .i64 mt, .string mk, .string mb, .int .i64 id, .int .i64 time, .slice ma mn mc, .int .i64 (i : Int), .int .i64 who, .int .i64 n]) := Blk.step (by repeat (first | (with_reducible exact HC.out) | ((with_reducible apply Blk.new); focus (first | rfl | (simp; done) | (simp; omega))) | (with_reducible apply Blk.drew) | (with_reducible apply Blk.alloc) | (with_reducible apply Blk.set_) | ((with_reducible apply Blk.far); rotate_left; focus (first | (simp; done) | (simp; omega) | omega)))) hb
    have R : Blk _ (w.heap.size + 2) _ _ := Blk.step (by repeat (first | (with_reducible exact HR.out) | ((with_reducible apply Blk.new); focus (first | rfl | (simp; done) | (simp; omega))) | (with_reducible apply Blk.drew) | (with_reducible apply Blk.alloc) | (with_reducible apply Blk.set_) | ((with_reducible apply Blk.far); rotate_left; focus (first | (simp; done) | (simp; omega) | omega)))) hb
    try simp only [List.set_cons_zero, List.set_cons_succ] at R
    obtain ⟨r0, r1, rz⟩ := cells2 R
    have rl := Blk.lt R
    have HR := Lib.hid R
    clear R
    obtain ⟨⟨⟨d0, -, -, -⟩, -, -, d9, d10, d11⟩, dz⟩ := cells12 HC2.out
    have cl := HC2.out.lt
    obtain ⟨_, _, ev, ot, oc⟩ := os
    cases ev
    have OT : Hid (OwnT w2 w1.heap.size _ _) := ot
    have OC : Hid (OwnC w2 w1.heap.size _ _) := oc
    obtain ⟨ea, ecap, ⟨⟨⟨c0, c1⟩, c2⟩, c3⟩, hTT⟩ := HAT.out.keep HB2.out
    have T := Lib.hid hTT
    have hz2 : w1.heap.size ≤ w2.heap.size := hb.size
    have hg2 : g < w2.heap.size := by omega
    clear hb ot oc hTT
    have HBX := Lib.hid (Blk.new (w := w2) (g := w2.heap.size) (t := 25) (cs := [.slice a2 s.tops.length cap2, .slice b2 nc2 cc2]) rfl)
    go_wp2_with fail
    have K2 : Hid (∀ W' : World, Below w2.heap.size w2 W' → (W'.cell? ⟨g, off + i * 4, none⟩ = some (.int .i64 t.base) ∧ W'.cell? ⟨g, off + i * 4 + 1, none⟩ = some (.int .i64 t.next) ∧ W'.cell? ⟨g, off + i * 4 + 2, none⟩ = some (.int .i64 t.mark) ∧ W'.cell? ⟨g, off + i * 4 + 3, none⟩ = some (.slice ea t.ents.length ecap))) := fun W' hb => ⟨(hb.cell hg2).trans c0, (hb.cell hg2).trans c1, (hb.cell hg2).trans c2, (hb.cell hg2).trans c3⟩
    have KS : Hid (∀ W' : World, Below w2.heap.size w2 W' → (W'.cell? ⟨w.heap.size, 0, none⟩ = some (.slice (some ⟨g, off, none⟩) s.tops.length cap) ∧ (W'.cell? ⟨w.heap.size + 1, 9, none⟩ = some (.int .i64 (i : Int)) ∧ W'.cell? ⟨w.heap.size + 1, 11, none⟩ = some (.int .i64 n))) ∧ ((W'.cell? ⟨g, off + i * 4, none⟩ = some (.int .i64 t.base) ∧ W'.cell? ⟨g, off + i * 4 + 1, none⟩ = some (.int .i64 t.next)) ∧ W'.cell? ⟨g, off + i * 4 + 2, none⟩ = some (.int .i64 t.mark) ∧ W'.cell? ⟨g, off + i * 4 + 3, none⟩ = some (.slice ea t.ents.length ecap))) := fun W' hb => by
      have c := fun (p : Addr) (hp : p.block < w2.heap.size) => hb.cell hp
      refine ⟨⟨(c _ ?_).trans p0, (c _ ?_).trans d9, (c _ ?_).trans d11⟩, ⟨(c _ ?_).trans c0, (c _ ?_).trans c1⟩, (c _ ?_).trans c2, (c _ ?_).trans c3⟩ <;> (simp only []; omega)
    have KT := KS.out w2 (Below.refl _ _)
    go_region_held3 (fun W' => (W'.cell? ⟨w.heap.size, 0, none⟩ = some (.slice (some ⟨g, off, none⟩) s.tops.length cap) ∧ (W'.cell? ⟨w.heap.size + 1, 9, none⟩ = some (.int .i64 (i : Int)) ∧ W'.cell? ⟨w.heap.size + 1, 11, none⟩ = some (.int .i64 n))) ∧ ((W'.cell? ⟨g, off + i * 4, none⟩ = some (.int .i64 t.base) ∧ W'.cell? ⟨g, off + i * 4 + 1, none⟩ = some (.int .i64 t.next)) ∧ W'.cell? ⟨g, off + i * 4 + 2, none⟩ = some (.int .i64 t.mark) ∧ W'.cell? ⟨g, off + i * 4 + 3, none⟩ = some (.slice ea t.ents.length ecap)))
      (first | (with_reducible exact KT) | (refine KS.out _ ?_; done) | (refine KS.out _ ?_; (repeat (first | (with_reducible exact Below.refl _ _) | (with_reducible exact Below.refl _ _) | (with_reducible apply Below.drew) | (with_reducible apply below_alloc) | ((with_reducible refine Below.alloc ?_ ?_ _); rotate_left; focus (first | (simp; done) | (simp; omega) | omega)) | ((with_reducible refine Below.setCell ?_ ?_ _); rotate_left; focus (first | (simp; done) | (simp; omega) | omega)))); done) | (refine KS.out _ ?_; (repeat (first | (with_reducible exact HQ.out) | (with_reducible exact Below.refl _ _) | (with_reducible apply Below.drew) | (with_reducible apply below_alloc) | ((with_reducible refine Below.alloc ?_ ?_ _); rotate_left; focus (first | (simp; done) | (simp; omega) | omega)) | ((with_reducible refine Below.setCell ?_ ?_ _); rotate_left; focus (first | (simp; done) | (simp; omega) | omega)))); done))
      (first | (go_at_call 57; refine (refTrim_any n (T.out.below (by repeat (first | (with_reducible exact Below.refl _ _) | (with_reducible exact Below.refl _ _) | (with_reducible apply Below.drew) | (with_reducible apply below_alloc) | ((with_reducible refine Below.alloc ?_ ?_ _); rotate_left; focus (first | (simp; done) | (simp; omega) | omega)) | ((with_reducible refine Below.setCell ?_ ?_ _); rotate_left; focus (first | (simp; done) | (simp; omega) | omega))))) HR1.out).mono ?_; rintro e w3 ⟨ad3, cp3, rfl, ow3, hb⟩; have HQ : Hid (Below w2.heap.size w2 w3) := below_step (by repeat (first | (with_reducible exact Below.refl _ _) | (with_reducible exact Below.refl _ _) | (with_reducible apply Below.drew) | (with_reducible apply below_alloc) | ((with_reducible refine Below.alloc ?_ ?_ _); rotate_left; focus (first | (simp; done) | (simp; omega) | omega)) | ((with_reducible refine Below.setCell ?_ ?_ _); rotate_left; focus (first | (simp; done) | (simp; omega) | omega)))) hb; have HX3 : Hid (Blk w3 w2.heap.size 25 [.slice a2 s.tops.length cap2, .slice b2 nc2 cc2]) := Lib.hid (Blk.step (by repeat (first | (with_reducible exact HBX.out) | ((with_reducible apply Blk.new); focus (first | rfl | (simp; done) | (simp; omega))) | (with_reducible apply Blk.drew) | (with_reducible apply Blk.alloc) | (with_reducible apply Blk.set_) | ((with_reducible apply Blk.far); rotate_left; focus (first | (simp; done) | (simp; omega) | omega)))) hb); have HY : Hid (Blk w3 (w2.heap.size + 1) 72 [.int .i64 0, .int .i64 0, .int .i64 0, .slice none 0 0]) := Lib.hid (Blk.step (Blk.drew (Blk.new (w := w2.alloc (.cells #[.slice a2 s.tops.length cap2, .slice b2 nc2 cc2] 25)) (by simp))) hb); obtain ⟨y0, y1, y2, y3, yz⟩ := cells4 HY.out; have O3 : Hid (OwnE w3 (w2.heap.size + 1 + 1) _ _) := Lib.hid (own_base ow3 (by simp)); clear hb ow3) | (go_at_call 57; refine (refTrim_any n (T.out.below (by repeat (first | (with_reducible exact Below.refl _ _) | (with_reducible exact Below.refl _ _) | (with_reducible apply Below.drew) | (with_reducible apply below_alloc) | ((with_reducible refine Below.alloc ?_ ?_ _); rotate_left; focus (first | (simp; done) | (simp; omega) | omega)) | ((with_reducible refine Below.setCell ?_ ?_ _); rotate_left; focus (first | (simp; done) | (simp; omega) | omega))))) HR1.out).mono ?_; rintro e w3 ⟨ad3, cp3, rfl, ow3, hb⟩; have HQ : Hid (Below w2.heap.size w2 w3) := below_step (by repeat (first | (with_reducible exact Below.refl _ _) | (with_reducible exact Below.refl _ _) | (with_reducible apply Below.drew) | (with_reducible apply below_alloc) | ((with_reducible refine Below.alloc ?_ ?_ _); rotate_left; focus (first | (simp; done) | (simp; omega) | omega)) | ((with_reducible refine Below.setCell ?_ ?_ _); rotate_left; focus (first | (simp; done) | (simp; omega) | omega)))) hb; have HX3 : Hid (Blk w3 w2.heap.size 25 [.slice a2 s.tops.length cap2, .slice b2 nc2 cc2]) := Lib.hid (Blk.step (by repeat (first | (with_reducible exact HBX.out) | ((with_reducible apply Blk.new); focus (first | rfl | (simp; done) | (simp; omega))) | (with_reducible apply Blk.drew) | (with_reducible apply Blk.alloc) | (with_reducible apply Blk.set_) | ((with_reducible apply Blk.far); rotate_left; focus (first | (simp; done) | (simp; omega) | omega)))) hb); have O3 : Hid (OwnE w3 (w2.heap.size + 1) _ _) := Lib.hid (own_base ow3 (by simp)); clear hb ow3))
    all_goals
      have hq3 : w2.heap.size + 1 ≤ w3.heap.size := HX3.out.lt
      first
        | (have ht2 : w2.heap.size + 1 < w3.heap.size := HY.out.lt
           have HT : Hid (Blk ((((w3.setCell ⟨w2.heap.size + 1, 0, none⟩ (.int .i64 t1.base)).setCell ⟨w2.heap.size + 1, 1, none⟩ (.int .i64 t1.next)).setCell ⟨w2.heap.size + 1, 2, none⟩ (.int .i64 t1.mark)).setCell ⟨w2.heap.size + 1, 3, none⟩ (.slice ad3 t1.ents.length cp3)) (w2.heap.size + 1) 72 [.int .i64 t1.base, .int .i64 t1.next, .int .i64 t1.mark, .slice ad3 t1.ents.length cp3]) := Lib.hid ((((HY.out.set_ 0 (.int .i64 t1.base)).set_ 1 (.int .i64 t1.next)).set_ 2 (.int .i64 t1.mark)).set_ 3 (.slice ad3 t1.ents.length cp3))
           have H3 : Hid (Below w2.heap.size w2 ((((w3.setCell ⟨w2.heap.size + 1, 0, none⟩ (.int .i64 t1.base)).setCell ⟨w2.heap.size + 1, 1, none⟩ (.int .i64 t1.next)).setCell ⟨w2.heap.size + 1, 2, none⟩ (.int .i64 t1.mark)).setCell ⟨w2.heap.size + 1, 3, none⟩ (.slice ad3 t1.ents.length cp3))) := Lib.hid (by repeat (first | (with_reducible exact HQ.out) | (with_reducible exact Below.refl _ _) | (with_reducible apply Below.drew) | (with_reducible apply below_alloc) | ((with_reducible refine Below.alloc ?_ ?_ _); rotate_left; focus (first | (simp; done) | (simp; omega) | omega)) | ((with_reducible refine Below.setCell ?_ ?_ _); rotate_left; focus (first | (simp; done) | (simp; omega) | omega))))
           have HX : Hid (Blk ((((w3.setCell ⟨w2.heap.size + 1, 0, none⟩ (.int .i64 t1.base)).setCell ⟨w2.heap.size + 1, 1, none⟩ (.int .i64 t1.next)).setCell ⟨w2.heap.size + 1, 2, none⟩ (.int .i64 t1.mark)).setCell ⟨w2.heap.size + 1, 3, none⟩ (.slice ad3 t1.ents.length cp3)) w2.heap.size 25 [.slice a2 s.tops.length cap2, .slice b2 nc2 cc2]) := Lib.hid ((((HX3.out.far (by omega) _).far (by omega) _).far (by omega) _).far (by omega) _)
           have O4 : Hid (OwnE ((((w3.setCell ⟨w2.heap.size + 1, 0, none⟩ (.int .i64 t1.base)).setCell ⟨w2.heap.size + 1, 1, none⟩ (.int .i64 t1.next)).setCell ⟨w2.heap.size + 1, 2, none⟩ (.int .i64 t1.mark)).setCell ⟨w2.heap.size + 1, 3, none⟩ (.slice ad3 t1.ents.length cp3)) (w2.heap.size + 1) _ _) := Lib.hid (own_base (B := w2.heap.size + 1 + 1) (by repeat (first | (with_reducible exact O3.out) | (with_reducible apply own_drew) | (with_reducible apply own_alloc) | ((with_reducible apply own_set); rotate_left; focus (first | (simp; done) | (simp; omega) | omega)))) (by omega))
           clear HY y0 y1 y2 y3 yz HX3 O3 HQ KT
           generalize hW3 : ((((w3.setCell ⟨w2.heap.size + 1, 0, none⟩ (.int .i64 t1.base)).setCell ⟨w2.heap.size + 1, 1, none⟩ (.int .i64 t1.next)).setCell ⟨w2.heap.size + 1, 2, none⟩ (.int .i64 t1.mark)).setCell ⟨w2.heap.size + 1, 3, none⟩ (.slice ad3 t1.ents.length cp3)) = W3 at HT H3 HX O4 ⊢
           generalize htb : w2.heap.size + 1 = tb at HT ⊢
           have hqt : w2.heap.size < tb := by omega
           clear hW3 ht2 htb)
        | (have HT := Lib.hid (Blk.new (w := w3) (g := w3.heap.size) (t := 72) (cs := [.int .i64 t1.base, .int .i64 t1.next, .int .i64 t1.mark, .slice ad3 t1.ents.length cp3]) rfl)
           have H3 : Hid (Below w2.heap.size w2 (w3.alloc (.cells #[.int .i64 t1.base, .int .i64 t1.next, .int .i64 t1.mark, .slice ad3 t1.ents.length cp3] 72))) := Lib.hid (by repeat (first | (with_reducible exact HQ.out) | (with_reducible exact Below.refl _ _) | (with_reducible apply Below.drew) | (with_reducible apply below_alloc) | ((with_reducible refine Below.alloc ?_ ?_ _); rotate_left; focus (first | (simp; done) | (simp; omega) | omega)) | ((with_reducible refine Below.setCell ?_ ?_ _); rotate_left; focus (first | (simp; done) | (simp; omega) | omega))))
           have HX : Hid (Blk (w3.alloc (.cells #[.int .i64 t1.base, .int .i64 t1.next, .int .i64 t1.mark, .slice ad3 t1.ents.length cp3] 72)) w2.heap.size 25 [.slice a2 s.tops.length cap2, .slice b2 nc2 cc2]) := Lib.hid (HX3.out.alloc _)
           have O4 : Hid (OwnE (w3.alloc (.cells #[.int .i64 t1.base, .int .i64 t1.next, .int .i64 t1.mark, .slice ad3 t1.ents.length cp3] 72)) (w2.heap.size + 1) _ _) := Lib.hid (by repeat (first | (with_reducible exact O3.out) | (with_reducible apply own_drew) | (with_reducible apply own_alloc) | ((with_reducible apply own_set); rotate_left; focus (first | (simp; done) | (simp; omega) | omega))))
           clear HX3 O3 HQ KT
           generalize hW3 : (w3.alloc (.cells #[.int .i64 t1.base, .int .i64 t1.next, .int .i64 t1.mark, .slice ad3 t1.ents.length cp3] 72)) = W3 at HT H3 HX O4 ⊢
           generalize htb : w3.heap.size = tb at HT ⊢
           have hqt : w2.heap.size < tb := by omega
           clear hW3 htb)
      clear p0 p1 pz pl r0 r1 rz rl d0 d9 d10 d11 dz cl c0 c1 c2 c3
      have HP3 := Lib.hid (HP.out.step H3.out)
      have HC3 := Lib.hid (HC2.out.step H3.out)
      have HR3 := Lib.hid (HR.out.step H3.out)
      have HB3 : Hid (Below w.heap.size w W3) := Lib.hid (HB2.out.trans (H3.out.mono (by have := HB2.out.size; omega)))
      have OT3 := Lib.hid (OT.out.keep H3.out)
      have OC3 : Hid (OwnC W3 w1.heap.size _ _) := Lib.hid (OC.out.keep H3.out)
      obtain ⟨p0, p1, pz⟩ := cells2 HP3.out
      obtain ⟨⟨⟨d0, -, -, -⟩, -, -, d9, d10, d11⟩, dz⟩ := cells12 HC3.out
      obtain ⟨r0, r1, rz⟩ := cells2 HR3.out
      obtain ⟨q0, q1, qz⟩ := cells2 HX.out
      obtain ⟨k0, k1, k2, k3, kz⟩ := cells4 HT.out
      have pl := HP3.out.lt
      have cl := HC3.out.lt
      have rl := HR3.out.lt
      have ql := HX.out.lt
      have tl := HT.out.lt
      obtain ⟨g3, hg, ⟨hg3, hg4⟩, ⟨-, hn1, hn2⟩, hat, hfz⟩ := OT3.out.at_ HI.out
      subst hg
      obtain ⟨ea3, ecap3, ⟨⟨⟨u0, u1⟩, u2⟩, u3⟩, -⟩ := hat
      unfold maxLen at hn2
      have hgq : g3 < w2.heap.size := by
        obtain ⟨ps, -, hrow, -⟩ := OT.out
        exact (hrow.lt _ rfl).2
      have hne : g3 ≠ w2.heap.size := by omega
      go_wp2_with fail
      have hcp := OT3.out
      obtain ⟨ps, -, hrow, -⟩ := hcp
      have OT4 := (OT3.out.le (B' := w.heap.size) (by omega)).put HI.out (own_base O4.out (by omega))
      have OC4 := OwnC.over OC3.out (fun b hb => heap_putT (i := i) (u := .slice ad3 t1.ents.length cp3) (t := t1) hb) hrow rfl (by decide) (by decide)
      have HR4 := (((HR3.out.far (b := g3) (o := i * 4) (by omega) (.int .i64 t1.base)).far (b := g3) (o := i * 4 + 1) (by omega) (.int .i64 t1.next)).far (b := g3) (o := i * 4 + 2) (by omega) (.int .i64 t1.mark)).far (b := g3) (o := i * 4 + 3) (by omega) (.slice ad3 t1.ents.length cp3)
      have HB4 := below_putT (i := i) (u := .slice ad3 t1.ents.length cp3) (t := t1) HB3.out (show w.heap.size ≤ g3 by omega)
      have HR5 := HR4.set_ 0 (.slice (some ⟨g3, 0, none⟩) s.tops.length cap2)
      obtain ⟨v0, v1, -⟩ := cells2 (HR5.set_ 1 (.slice b2 nc2 cc2))
      refine bodyPost_ret (v := .tuple #[.agg #[.slice (some ⟨g3, 0, none⟩) s.tops.length cap2, .slice b2 nc2 cc2], .int .i64 0]) (by simp [results, Try.results23, go_sem, v0, v1]) rfl ⟨_, _, rfl, ⟨_, _, rfl, ?_, ?_⟩, ?_⟩
      · exact OwnT.blk (OwnT.blk OT4 HR4 (by decide) (by decide)) HR5 (by decide) (by decide)
      · exact OwnRows.le (OwnC.far (OwnC.far OC4 (by omega)) (by omega)) (by omega)
      · exact (HB4.setCell (p := ⟨w.heap.size + 2, 0, none⟩) (by simp) _).setCell (p := ⟨w.heap.size + 2, 1, none⟩) (by simp) _



set_option maxHeartbeats 8000000 in
set_option maxRecDepth 100000 in
theorem refDo_compact {v : Value} {s : Str} {t1 t2 : Top} {w : World} {mid mt id time : Int} {ga ma : Option Addr} {gn gc mn mc : Nat} {mk mb : ByteArray} {i : Nat} (who n : Int) (h : StrR w v s) (hm : mayS s) (hi : i < 4) (e2 : 0 ≤ n) (e3 : n ≤ 1073741824)
    (hu : trimP (topN s (i : Int)) n = (t1, 0)) (hu2 : compactP (topN s (i : Int)) n = (t2, 0)) :
    Calls Try.prog 23 #[v, .agg #[.int .u8 6, .int .i64 mid, .slice ga gn gc, .int .i64 mt, .string mk, .string mb, .int .i64 id, .int .i64 time, .slice ma mn mc, .int .i64 (i : Int), .int .i64 who, .int .i64 n]] w (DoEnd ⟨s.tops.set i t2, s.coms⟩ 0 w) := by
  have HS := Lib.hid h
  have HM := Lib.hid (show true = decide (mayS s) by simp [hm])
  have HF := Lib.hid (few_of_may hm)
  obtain ⟨a, cap, bb, nc, cc, rfl, hT, -⟩ := h.shape
  have h4 := hm.1.1
  have h1 : (i : Int) < 4 := by omega
  have h0 : 0 ≤ (i : Int) := by omega
  obtain ⟨⟨-, hcap, hmx⟩, g, off, rfl, hat⟩ := StrR.top hT (i := i) h0 (by omega)
  rw [show s.tops.getD (i : Int).toNat default = topN s i from rfl] at hat
  obtain ⟨t, ht⟩ : ∃ t, t = topN s i := ⟨_, rfl⟩
  rw [← ht] at hat hu hu2
  simp only [Int.toNat_natCast] at hat
  have HI := Lib.hid (show i < s.tops.length by omega)
  have HAT := Lib.hid hat
  have h5 : (i : Int) < (s.tops.length : Int) := by omega
  have hgw : g < w.heap.size := World.block_lt_of_cell? w _ hat.choose_spec.choose_spec.1.1.1.1
  unfold maxLen at hmx
  have HR1 := Lib.hid hu
  have HR2 := Lib.hid hu2
  clear h hm h4 hi hT ht hat hu hu2
  focus
    go_enter Try.func23, Try.ntmps23
    go_wp2_with fail
    refine Calls.mono (refStrMay_any ?_ HM.out) ?_
    · exact HS.out.below (by repeat (first | (with_reducible exact Below.refl _ _) | (with_reducible exact Below.refl _ _) | (with_reducible apply Below.drew) | (with_reducible apply below_alloc) | ((with_reducible refine Below.alloc ?_ ?_ _); rotate_left; focus (first | (simp; done) | (simp; omega) | omega)) | ((with_reducible refine Below.setCell ?_ ?_ _); rotate_left; focus (first | (simp; done) | (simp; omega) | omega))))
    rintro e w1 ⟨rfl, hb⟩
    have HB : Hid (Below w.heap.size w _) := below_step (by repeat (first | (with_reducible exact Below.refl _ _) | (with_reducible exact Below.refl _ _) | (with_reducible apply Below.drew) | (with_reducible apply below_alloc) | ((with_reducible refine Below.alloc ?_ ?_ _); rotate_left; focus (first | (simp; done) | (simp; omega) | omega)) | ((with_reducible refine Below.setCell ?_ ?_ _); rotate_left; focus (first | (simp; done) | (simp; omega) | omega)))) hb
    have P : Blk _ (w.heap.size) _ _ := Blk.step (by repeat (first | ((with_reducible apply Blk.new); focus (first | rfl | (simp; done) | (simp; omega))) | (with_reducible apply Blk.drew) | (with_reducible apply Blk.alloc) | (with_reducible apply Blk.set_) | ((with_reducible apply Blk.far); rotate_left; focus (first | (simp; done) | (simp; omega) | omega)))) hb
    obtain ⟨p0, p1, pz⟩ := cells2 P
    have pl := Blk.lt P
    have HP := Lib.hid P
    clear P
    have HC : Hid (Blk w1 (w.heap.size + 1) 52 [.int .u8 6, .int .i64 mid, .slice ga gn gc, .int .i64 mt, .string mk, .string mb, .int .i64 id, .int .i64 time, .slice ma mn mc, .int .i64 (i : Int), .int .i64 who, .int .i64 n]) := Blk.step (by repeat (first | (with_reducible exact Blk.new rfl) | ((with_reducible apply Blk.new); focus (first | rfl | (simp; done) | (simp; omega))) | (with_reducible apply Blk.drew) | (with_reducible apply Blk.alloc) | (with_reducible apply Blk.set_) | ((with_reducible apply Blk.far); rotate_left; focus (first | (simp; done) | (simp; omega) | omega)))) hb
    have R : Blk _ (w.heap.size + 2) _ _ := Blk.step (by repeat (first | ((with_reducible apply Blk.new); focus (first | rfl | (simp; done) | (simp; omega))) | (with_reducible apply Blk.drew) | (with_reducible apply Blk.alloc) | (with_reducible apply Blk.set_) | ((with_reducible apply Blk.far); rotate_left; focus (first | (simp; done) | (simp; omega) | omega)))) hb
    obtain ⟨r0, r1, rz⟩ := cells2 R
    have rl := Blk.lt R
    have HR := Lib.hid R
    clear R
    obtain ⟨⟨⟨d0, -, -, -⟩, -, -, d9, d10, d11⟩, dz⟩ := cells12 HC.out
    have cl := HC.out.lt
    clear hb
    go_wp2_with fail
    refine Calls.mono (refStrTwin_any (s := s) ?_ HF.out) ?_
    · exact HS.out.below (by repeat (first | (with_reducible exact HB.out) | (with_reducible exact Below.refl _ _) | (with_reducible apply Below.drew) | (with_reducible apply below_alloc) | ((with_reducible refine Below.alloc ?_ ?_ _); rotate_left; focus (first | (simp; done) | (simp; omega) | omega)) | ((with_reducible refine Below.setCell ?_ ?_ _); rotate_left; focus (first | (simp; done) | (simp; omega) | omega))))
    rintro e w2 ⟨ta, tc, rfl, os, hb⟩
    obtain ⟨a2, cap2, b2, nc2, cc2, ev, -, -⟩ := os.reads.shape
    cases ev
    have hz : w.heap.size + 2 < w1.heap.size := rl
    clear p0 p1 pz pl d0 d9 d10 d11 dz cl r0 r1 rz rl
    have HB2 : Hid (Below w.heap.size w _) := below_step (by repeat (first | (with_reducible exact HB.out) | (with_reducible exact Below.refl _ _) | (with_reducible apply Below.drew) | (with_reducible apply below_alloc) | ((with_reducible refine Below.alloc ?_ ?_ _); rotate_left; focus (first | (simp; done) | (simp; omega) | omega)) | ((with_reducible refine Below.setCell ?_ ?_ _); rotate_left; focus (first | (simp; done) | (simp; omega) | omega)))) hb
    have P : Blk _ (w.heap.size) _ _ := Blk.step (by repeat (first | (with_reducible exact HP.out) | ((with_reducible apply Blk.new); focus (first | rfl | (simp; done) | (simp; omega))) | (with_reducible apply Blk.drew) | (with_reducible apply Blk.alloc) | (with_reducible apply Blk.set_) | ((with_reducible apply Blk.far); rotate_left; focus (first | (simp; done) | (simp; omega) | omega)))) hb
    try simp only [List.set_cons_zero, List.set_cons_succ] at P
    obtain ⟨p0, p1, pz⟩ := cells2 P
    have pl := Blk.lt P
    have HP := Lib.hid P
    clear P
    have HC2 : Hid (Blk w2 (w.heap.size + 1) 52 [.int .u8 6, .int .i64 mid, .slice ga gn gc, .int .i64 mt, .string mk, .string mb, .int .i64 id, .int .i64 time, .slice ma mn mc, .int .i64 (i : Int), .int .i64 who, .int .i64 n]) := Blk.step (by repeat (first | (with_reducible exact HC.out) | ((with_reducible apply Blk.new); focus (first | rfl | (simp; done) | (simp; omega))) | (with_reducible apply Blk.drew) | (with_reducible apply Blk.alloc) | (with_reducible apply Blk.set_) | ((with_reducible apply Blk.far); rotate_left; focus (first | (simp; done) | (simp; omega) | omega)))) hb
    have R : Blk _ (w.heap.size + 2) _ _ := Blk.step (by repeat (first | (with_reducible exact HR.out) | ((with_reducible apply Blk.new); focus (first | rfl | (simp; done) | (simp; omega))) | (with_reducible apply Blk.drew) | (with_reducible apply Blk.alloc) | (with_reducible apply Blk.set_) | ((with_reducible apply Blk.far); rotate_left; focus (first | (simp; done) | (simp; omega) | omega)))) hb
    try simp only [List.set_cons_zero, List.set_cons_succ] at R
    obtain ⟨r0, r1, rz⟩ := cells2 R
    have rl := Blk.lt R
    have HR := Lib.hid R
    clear R
    obtain ⟨⟨⟨d0, -, -, -⟩, -, -, d9, d10, d11⟩, dz⟩ := cells12 HC2.out
    have cl := HC2.out.lt
    obtain ⟨_, _, ev, ot, oc⟩ := os
    cases ev
    have OT : Hid (OwnT w2 w1.heap.size _ _) := ot
    have OC : Hid (OwnC w2 w1.heap.size _ _) := oc
    obtain ⟨ea, ecap, ⟨⟨⟨c0, c1⟩, c2⟩, c3⟩, hTT⟩ := HAT.out.keep HB2.out
    have T := Lib.hid hTT
    have hz2 : w1.heap.size ≤ w2.heap.size := hb.size
    have hg2 : g < w2.heap.size := by omega
    clear hb ot oc hTT
    have HBX := Lib.hid (Blk.new (w := w2) (g := w2.heap.size) (t := 25) (cs := [.slice a2 s.tops.length cap2, .slice b2 nc2 cc2]) rfl)
    go_wp2_with fail
    have K2 : Hid (∀ W' : World, Below w2.heap.size w2 W' → (W'.cell? ⟨g, off + i * 4, none⟩ = some (.int .i64 t.base) ∧ W'.cell? ⟨g, off + i * 4 + 1, none⟩ = some (.int .i64 t.next) ∧ W'.cell? ⟨g, off + i * 4 + 2, none⟩ = some (.int .i64 t.mark) ∧ W'.cell? ⟨g, off + i * 4 + 3, none⟩ = some (.slice ea t.ents.length ecap))) := fun W' hb => ⟨(hb.cell hg2).trans c0, (hb.cell hg2).trans c1, (hb.cell hg2).trans c2, (hb.cell hg2).trans c3⟩
    have KS : Hid (∀ W' : World, Below w2.heap.size w2 W' → (W'.cell? ⟨w.heap.size, 0, none⟩ = some (.slice (some ⟨g, off, none⟩) s.tops.length cap) ∧ (W'.cell? ⟨w.heap.size + 1, 9, none⟩ = some (.int .i64 (i : Int)) ∧ W'.cell? ⟨w.heap.size + 1, 11, none⟩ = some (.int .i64 n))) ∧ ((W'.cell? ⟨g, off + i * 4, none⟩ = some (.int .i64 t.base) ∧ W'.cell? ⟨g, off + i * 4 + 1, none⟩ = some (.int .i64 t.next)) ∧ W'.cell? ⟨g, off + i * 4 + 2, none⟩ = some (.int .i64 t.mark) ∧ W'.cell? ⟨g, off + i * 4 + 3, none⟩ = some (.slice ea t.ents.length ecap))) := fun W' hb => by
      have c := fun (p : Addr) (hp : p.block < w2.heap.size) => hb.cell hp
      refine ⟨⟨(c _ ?_).trans p0, (c _ ?_).trans d9, (c _ ?_).trans d11⟩, ⟨(c _ ?_).trans c0, (c _ ?_).trans c1⟩, (c _ ?_).trans c2, (c _ ?_).trans c3⟩ <;> (simp only []; omega)
    have KT := KS.out w2 (Below.refl _ _)
    go_region_held3 (fun W' => (W'.cell? ⟨w.heap.size, 0, none⟩ = some (.slice (some ⟨g, off, none⟩) s.tops.length cap) ∧ (W'.cell? ⟨w.heap.size + 1, 9, none⟩ = some (.int .i64 (i : Int)) ∧ W'.cell? ⟨w.heap.size + 1, 11, none⟩ = some (.int .i64 n))) ∧ ((W'.cell? ⟨g, off + i * 4, none⟩ = some (.int .i64 t.base) ∧ W'.cell? ⟨g, off + i * 4 + 1, none⟩ = some (.int .i64 t.next)) ∧ W'.cell? ⟨g, off + i * 4 + 2, none⟩ = some (.int .i64 t.mark) ∧ W'.cell? ⟨g, off + i * 4 + 3, none⟩ = some (.slice ea t.ents.length ecap)))
      (first | (with_reducible exact KT) | (refine KS.out _ ?_; done) | (refine KS.out _ ?_; (repeat (first | (with_reducible exact Below.refl _ _) | (with_reducible exact Below.refl _ _) | (with_reducible apply Below.drew) | (with_reducible apply below_alloc) | ((with_reducible refine Below.alloc ?_ ?_ _); rotate_left; focus (first | (simp; done) | (simp; omega) | omega)) | ((with_reducible refine Below.setCell ?_ ?_ _); rotate_left; focus (first | (simp; done) | (simp; omega) | omega)))); done) | (refine KS.out _ ?_; (repeat (first | (with_reducible exact HQ.out) | (with_reducible exact Below.refl _ _) | (with_reducible apply Below.drew) | (with_reducible apply below_alloc) | ((with_reducible refine Below.alloc ?_ ?_ _); rotate_left; focus (first | (simp; done) | (simp; omega) | omega)) | ((with_reducible refine Below.setCell ?_ ?_ _); rotate_left; focus (first | (simp; done) | (simp; omega) | omega)))); done))
      (first | (go_at_call 57; refine (refTrim_any n (T.out.below (by repeat (first | (with_reducible exact Below.refl _ _) | (with_reducible exact Below.refl _ _) | (with_reducible apply Below.drew) | (with_reducible apply below_alloc) | ((with_reducible refine Below.alloc ?_ ?_ _); rotate_left; focus (first | (simp; done) | (simp; omega) | omega)) | ((with_reducible refine Below.setCell ?_ ?_ _); rotate_left; focus (first | (simp; done) | (simp; omega) | omega))))) HR1.out).mono ?_; rintro e w3 ⟨ad3, cp3, rfl, ow3, hb⟩; have HQ : Hid (Below w2.heap.size w2 w3) := below_step (by repeat (first | (with_reducible exact Below.refl _ _) | (with_reducible exact Below.refl _ _) | (with_reducible apply Below.drew) | (with_reducible apply below_alloc) | ((with_reducible refine Below.alloc ?_ ?_ _); rotate_left; focus (first | (simp; done) | (simp; omega) | omega)) | ((with_reducible refine Below.setCell ?_ ?_ _); rotate_left; focus (first | (simp; done) | (simp; omega) | omega)))) hb; have HX3 : Hid (Blk w3 w2.heap.size 25 [.slice a2 s.tops.length cap2, .slice b2 nc2 cc2]) := Lib.hid (Blk.step (by repeat (first | (with_reducible exact HBX.out) | ((with_reducible apply Blk.new); focus (first | rfl | (simp; done) | (simp; omega))) | (with_reducible apply Blk.drew) | (with_reducible apply Blk.alloc) | (with_reducible apply Blk.set_) | ((with_reducible apply Blk.far); rotate_left; focus (first | (simp; done) | (simp; omega) | omega)))) hb); have HY : Hid (Blk w3 (w2.heap.size + 1) 72 [.int .i64 0, .int .i64 0, .int .i64 0, .slice none 0 0]) := Lib.hid (Blk.step (Blk.drew (Blk.new (w := w2.alloc (.cells #[.slice a2 s.tops.length cap2, .slice b2 nc2 cc2] 25)) (by simp))) hb); obtain ⟨y0, y1, y2, y3, yz⟩ := cells4 HY.out; have O3 : Hid (OwnE w3 (w2.heap.size + 1 + 1) _ _) := Lib.hid (own_base ow3 (by simp)); clear hb ow3) | (go_at_call 57; refine (refTrim_any n (T.out.below (by repeat (first | (with_reducible exact Below.refl _ _) | (with_reducible exact Below.refl _ _) | (with_reducible apply Below.drew) | (with_reducible apply below_alloc) | ((with_reducible refine Below.alloc ?_ ?_ _); rotate_left; focus (first | (simp; done) | (simp; omega) | omega)) | ((with_reducible refine Below.setCell ?_ ?_ _); rotate_left; focus (first | (simp; done) | (simp; omega) | omega))))) HR1.out).mono ?_; rintro e w3 ⟨ad3, cp3, rfl, ow3, hb⟩; have HQ : Hid (Below w2.heap.size w2 w3) := below_step (by repeat (first | (with_reducible exact Below.refl _ _) | (with_reducible exact Below.refl _ _) | (with_reducible apply Below.drew) | (with_reducible apply below_alloc) | ((with_reducible refine Below.alloc ?_ ?_ _); rotate_left; focus (first | (simp; done) | (simp; omega) | omega)) | ((with_reducible refine Below.setCell ?_ ?_ _); rotate_left; focus (first | (simp; done) | (simp; omega) | omega)))) hb; have HX3 : Hid (Blk w3 w2.heap.size 25 [.slice a2 s.tops.length cap2, .slice b2 nc2 cc2]) := Lib.hid (Blk.step (by repeat (first | (with_reducible exact HBX.out) | ((with_reducible apply Blk.new); focus (first | rfl | (simp; done) | (simp; omega))) | (with_reducible apply Blk.drew) | (with_reducible apply Blk.alloc) | (with_reducible apply Blk.set_) | ((with_reducible apply Blk.far); rotate_left; focus (first | (simp; done) | (simp; omega) | omega)))) hb); have O3 : Hid (OwnE w3 (w2.heap.size + 1) _ _) := Lib.hid (own_base ow3 (by simp)); clear hb ow3))
    all_goals
      have hq3 : w2.heap.size + 1 ≤ w3.heap.size := HX3.out.lt
      first
        | (have ht2 : w2.heap.size + 1 < w3.heap.size := HY.out.lt
           have HT : Hid (Blk ((((w3.setCell ⟨w2.heap.size + 1, 0, none⟩ (.int .i64 t1.base)).setCell ⟨w2.heap.size + 1, 1, none⟩ (.int .i64 t1.next)).setCell ⟨w2.heap.size + 1, 2, none⟩ (.int .i64 t1.mark)).setCell ⟨w2.heap.size + 1, 3, none⟩ (.slice ad3 t1.ents.length cp3)) (w2.heap.size + 1) 72 [.int .i64 t1.base, .int .i64 t1.next, .int .i64 t1.mark, .slice ad3 t1.ents.length cp3]) := Lib.hid ((((HY.out.set_ 0 (.int .i64 t1.base)).set_ 1 (.int .i64 t1.next)).set_ 2 (.int .i64 t1.mark)).set_ 3 (.slice ad3 t1.ents.length cp3))
           have H3 : Hid (Below w2.heap.size w2 ((((w3.setCell ⟨w2.heap.size + 1, 0, none⟩ (.int .i64 t1.base)).setCell ⟨w2.heap.size + 1, 1, none⟩ (.int .i64 t1.next)).setCell ⟨w2.heap.size + 1, 2, none⟩ (.int .i64 t1.mark)).setCell ⟨w2.heap.size + 1, 3, none⟩ (.slice ad3 t1.ents.length cp3))) := Lib.hid (by repeat (first | (with_reducible exact HQ.out) | (with_reducible exact Below.refl _ _) | (with_reducible apply Below.drew) | (with_reducible apply below_alloc) | ((with_reducible refine Below.alloc ?_ ?_ _); rotate_left; focus (first | (simp; done) | (simp; omega) | omega)) | ((with_reducible refine Below.setCell ?_ ?_ _); rotate_left; focus (first | (simp; done) | (simp; omega) | omega))))
           have HX : Hid (Blk ((((w3.setCell ⟨w2.heap.size + 1, 0, none⟩ (.int .i64 t1.base)).setCell ⟨w2.heap.size + 1, 1, none⟩ (.int .i64 t1.next)).setCell ⟨w2.heap.size + 1, 2, none⟩ (.int .i64 t1.mark)).setCell ⟨w2.heap.size + 1, 3, none⟩ (.slice ad3 t1.ents.length cp3)) w2.heap.size 25 [.slice a2 s.tops.length cap2, .slice b2 nc2 cc2]) := Lib.hid ((((HX3.out.far (by omega) _).far (by omega) _).far (by omega) _).far (by omega) _)
           have O4 : Hid (OwnE ((((w3.setCell ⟨w2.heap.size + 1, 0, none⟩ (.int .i64 t1.base)).setCell ⟨w2.heap.size + 1, 1, none⟩ (.int .i64 t1.next)).setCell ⟨w2.heap.size + 1, 2, none⟩ (.int .i64 t1.mark)).setCell ⟨w2.heap.size + 1, 3, none⟩ (.slice ad3 t1.ents.length cp3)) (w2.heap.size + 1) _ _) := Lib.hid (own_base (B := w2.heap.size + 1 + 1) (by repeat (first | (with_reducible exact O3.out) | (with_reducible apply own_drew) | (with_reducible apply own_alloc) | ((with_reducible apply own_set); rotate_left; focus (first | (simp; done) | (simp; omega) | omega)))) (by omega))
           clear HY y0 y1 y2 y3 yz HX3 O3 HQ KT
           generalize hW3 : ((((w3.setCell ⟨w2.heap.size + 1, 0, none⟩ (.int .i64 t1.base)).setCell ⟨w2.heap.size + 1, 1, none⟩ (.int .i64 t1.next)).setCell ⟨w2.heap.size + 1, 2, none⟩ (.int .i64 t1.mark)).setCell ⟨w2.heap.size + 1, 3, none⟩ (.slice ad3 t1.ents.length cp3)) = W3 at HT H3 HX O4 ⊢
           generalize htb : w2.heap.size + 1 = tb at HT ⊢
           have hqt : w2.heap.size < tb := by omega
           clear hW3 ht2 htb)
        | (have HT := Lib.hid (Blk.new (w := w3) (g := w3.heap.size) (t := 72) (cs := [.int .i64 t1.base, .int .i64 t1.next, .int .i64 t1.mark, .slice ad3 t1.ents.length cp3]) rfl)
           have H3 : Hid (Below w2.heap.size w2 (w3.alloc (.cells #[.int .i64 t1.base, .int .i64 t1.next, .int .i64 t1.mark, .slice ad3 t1.ents.length cp3] 72))) := Lib.hid (by repeat (first | (with_reducible exact HQ.out) | (with_reducible exact Below.refl _ _) | (with_reducible apply Below.drew) | (with_reducible apply below_alloc) | ((with_reducible refine Below.alloc ?_ ?_ _); rotate_left; focus (first | (simp; done) | (simp; omega) | omega)) | ((with_reducible refine Below.setCell ?_ ?_ _); rotate_left; focus (first | (simp; done) | (simp; omega) | omega))))
           have HX : Hid (Blk (w3.alloc (.cells #[.int .i64 t1.base, .int .i64 t1.next, .int .i64 t1.mark, .slice ad3 t1.ents.length cp3] 72)) w2.heap.size 25 [.slice a2 s.tops.length cap2, .slice b2 nc2 cc2]) := Lib.hid (HX3.out.alloc _)
           have O4 : Hid (OwnE (w3.alloc (.cells #[.int .i64 t1.base, .int .i64 t1.next, .int .i64 t1.mark, .slice ad3 t1.ents.length cp3] 72)) (w2.heap.size + 1) _ _) := Lib.hid (by repeat (first | (with_reducible exact O3.out) | (with_reducible apply own_drew) | (with_reducible apply own_alloc) | ((with_reducible apply own_set); rotate_left; focus (first | (simp; done) | (simp; omega) | omega))))
           clear HX3 O3 HQ KT
           generalize hW3 : (w3.alloc (.cells #[.int .i64 t1.base, .int .i64 t1.next, .int .i64 t1.mark, .slice ad3 t1.ents.length cp3] 72)) = W3 at HT H3 HX O4 ⊢
           generalize htb : w3.heap.size = tb at HT ⊢
           have hqt : w2.heap.size < tb := by omega
           clear hW3 htb)
      clear p0 p1 pz pl r0 r1 rz rl d0 d9 d10 d11 dz cl c0 c1 c2 c3
      have HP3 := Lib.hid (HP.out.step H3.out)
      have HC3 := Lib.hid (HC2.out.step H3.out)
      have HR3 := Lib.hid (HR.out.step H3.out)
      have HB3 : Hid (Below w.heap.size w W3) := Lib.hid (HB2.out.trans (H3.out.mono (by have := HB2.out.size; omega)))
      have OT3 := Lib.hid (OT.out.keep H3.out)
      have OC3 : Hid (OwnC W3 w1.heap.size _ _) := Lib.hid (OC.out.keep H3.out)
      obtain ⟨p0, p1, pz⟩ := cells2 HP3.out
      obtain ⟨⟨⟨d0, -, -, -⟩, -, -, d9, d10, d11⟩, dz⟩ := cells12 HC3.out
      obtain ⟨r0, r1, rz⟩ := cells2 HR3.out
      obtain ⟨q0, q1, qz⟩ := cells2 HX.out
      obtain ⟨k0, k1, k2, k3, kz⟩ := cells4 HT.out
      have pl := HP3.out.lt
      have cl := HC3.out.lt
      have rl := HR3.out.lt
      have ql := HX.out.lt
      have tl := HT.out.lt
      have hw23 : w2.heap.size ≤ W3.heap.size := H3.out.size
      obtain ⟨c0, c1, c2, c3⟩ : ((W3.cell? ⟨g, off + i * 4, none⟩ = some (.int .i64 t.base) ∧ W3.cell? ⟨g, off + i * 4 + 1, none⟩ = some (.int .i64 t.next) ∧ W3.cell? ⟨g, off + i * 4 + 2, none⟩ = some (.int .i64 t.mark) ∧ W3.cell? ⟨g, off + i * 4 + 3, none⟩ = some (.slice ea t.ents.length ecap))) := (K2.out W3 H3.out)
      have T3 := Lib.hid (T.out.below H3.out)
      have hg3 : g < W3.heap.size := by omega
      go_wp2_with fail
      have KT := KS.out W3 H3.out
      go_region_held3 (fun W' => (W'.cell? ⟨w.heap.size, 0, none⟩ = some (.slice (some ⟨g, off, none⟩) s.tops.length cap) ∧ (W'.cell? ⟨w.heap.size + 1, 9, none⟩ = some (.int .i64 (i : Int)) ∧ W'.cell? ⟨w.heap.size + 1, 11, none⟩ = some (.int .i64 n))) ∧ ((W'.cell? ⟨g, off + i * 4, none⟩ = some (.int .i64 t.base) ∧ W'.cell? ⟨g, off + i * 4 + 1, none⟩ = some (.int .i64 t.next)) ∧ W'.cell? ⟨g, off + i * 4 + 2, none⟩ = some (.int .i64 t.mark) ∧ W'.cell? ⟨g, off + i * 4 + 3, none⟩ = some (.slice ea t.ents.length ecap)))
        (first | (with_reducible exact KT) | (refine KS.out _ ?_; done) | (refine KS.out _ ?_; (repeat (first | (with_reducible exact H3.out) | (with_reducible exact Below.refl _ _) | (with_reducible apply Below.drew) | (with_reducible apply below_alloc) | ((with_reducible refine Below.alloc ?_ ?_ _); rotate_left; focus (first | (simp; done) | (simp; omega) | omega)) | ((with_reducible refine Below.setCell ?_ ?_ _); rotate_left; focus (first | (simp; done) | (simp; omega) | omega)))); done) | (refine KS.out _ ?_; (repeat (first | (with_reducible exact HQ6.out) | (with_reducible exact Below.refl _ _) | (with_reducible apply Below.drew) | (with_reducible apply below_alloc) | ((with_reducible refine Below.alloc ?_ ?_ _); rotate_left; focus (first | (simp; done) | (simp; omega) | omega)) | ((with_reducible refine Below.setCell ?_ ?_ _); rotate_left; focus (first | (simp; done) | (simp; omega) | omega)))); done))
        (first | (go_at_call 58; refine (refCom_any n (T3.out.below (by repeat (first | (with_reducible exact Below.refl _ _) | (with_reducible exact Below.refl _ _) | (with_reducible apply Below.drew) | (with_reducible apply below_alloc) | ((with_reducible refine Below.alloc ?_ ?_ _); rotate_left; focus (first | (simp; done) | (simp; omega) | omega)) | ((with_reducible refine Below.setCell ?_ ?_ _); rotate_left; focus (first | (simp; done) | (simp; omega) | omega))))) HR2.out).mono ?_; rintro e w5 ⟨ad5, cp5, rfl, ow5, hb⟩; have HQ5 : Hid (Below W3.heap.size W3 w5) := below_step (by repeat (first | (with_reducible exact Below.refl _ _) | (with_reducible exact Below.refl _ _) | (with_reducible apply Below.drew) | (with_reducible apply below_alloc) | ((with_reducible refine Below.alloc ?_ ?_ _); rotate_left; focus (first | (simp; done) | (simp; omega) | omega)) | ((with_reducible refine Below.setCell ?_ ?_ _); rotate_left; focus (first | (simp; done) | (simp; omega) | omega)))) hb; have HQ6 : Hid (Below w2.heap.size w2 w5) := Lib.hid (H3.out.trans (HQ5.out.mono (by omega))); have HT5 : Hid (Blk w5 tb 72 [.int .i64 t1.base, .int .i64 t1.next, .int .i64 t1.mark, .slice ad3 t1.ents.length cp3]) := Lib.hid (Blk.step (by repeat (first | (with_reducible exact HT.out) | ((with_reducible apply Blk.new); focus (first | rfl | (simp; done) | (simp; omega))) | (with_reducible apply Blk.drew) | (with_reducible apply Blk.alloc) | (with_reducible apply Blk.set_) | ((with_reducible apply Blk.far); rotate_left; focus (first | (simp; done) | (simp; omega) | omega)))) hb); obtain ⟨y0, y1, y2, y3, yz⟩ := cells4 HT5.out; have O5 : Hid (OwnE w5 W3.heap.size _ _) := Lib.hid (own_base ow5 (by simp)); clear hb ow5))
      have H6 : Hid (Below w2.heap.size w2 ((((w5.setCell ⟨tb, 0, none⟩ (.int .i64 t2.base)).setCell ⟨tb, 1, none⟩ (.int .i64 t2.next)).setCell ⟨tb, 2, none⟩ (.int .i64 t2.mark)).setCell ⟨tb, 3, none⟩ (.slice ad5 t2.ents.length cp5))) := Lib.hid (by repeat (first | (with_reducible exact HQ6.out) | (with_reducible exact Below.refl _ _) | (with_reducible apply Below.drew) | (with_reducible apply below_alloc) | ((with_reducible refine Below.alloc ?_ ?_ _); rotate_left; focus (first | (simp; done) | (simp; omega) | omega)) | ((with_reducible refine Below.setCell ?_ ?_ _); rotate_left; focus (first | (simp; done) | (simp; omega) | omega))))
      have HT6 : Hid (Blk ((((w5.setCell ⟨tb, 0, none⟩ (.int .i64 t2.base)).setCell ⟨tb, 1, none⟩ (.int .i64 t2.next)).setCell ⟨tb, 2, none⟩ (.int .i64 t2.mark)).setCell ⟨tb, 3, none⟩ (.slice ad5 t2.ents.length cp5)) tb 72 [.int .i64 t2.base, .int .i64 t2.next, .int .i64 t2.mark, .slice ad5 t2.ents.length cp5]) := Lib.hid ((((HT5.out.set_ 0 (.int .i64 t2.base)).set_ 1 (.int .i64 t2.next)).set_ 2 (.int .i64 t2.mark)).set_ 3 (.slice ad5 t2.ents.length cp5))
      have HX5 := Lib.hid (HX.out.step HQ5.out)
      have HX6 : Hid (Blk ((((w5.setCell ⟨tb, 0, none⟩ (.int .i64 t2.base)).setCell ⟨tb, 1, none⟩ (.int .i64 t2.next)).setCell ⟨tb, 2, none⟩ (.int .i64 t2.mark)).setCell ⟨tb, 3, none⟩ (.slice ad5 t2.ents.length cp5)) w2.heap.size 25 [.slice a2 s.tops.length cap2, .slice b2 nc2 cc2]) := Lib.hid ((((HX5.out.far (by omega) _).far (by omega) _).far (by omega) _).far (by omega) _)
      have O6 : Hid (OwnE ((((w5.setCell ⟨tb, 0, none⟩ (.int .i64 t2.base)).setCell ⟨tb, 1, none⟩ (.int .i64 t2.next)).setCell ⟨tb, 2, none⟩ (.int .i64 t2.mark)).setCell ⟨tb, 3, none⟩ (.slice ad5 t2.ents.length cp5)) (w2.heap.size + 1) _ _) := Lib.hid (own_base (B := W3.heap.size) (by repeat (first | (with_reducible exact O5.out) | (with_reducible apply own_drew) | (with_reducible apply own_alloc) | ((with_reducible apply own_set); rotate_left; focus (first | (simp; done) | (simp; omega) | omega)))) (by omega))
      clear HT5 y0 y1 y2 y3 yz HX5 O5 HQ5 HQ6 KT KS
      generalize hW5 : ((((w5.setCell ⟨tb, 0, none⟩ (.int .i64 t2.base)).setCell ⟨tb, 1, none⟩ (.int .i64 t2.next)).setCell ⟨tb, 2, none⟩ (.int .i64 t2.mark)).setCell ⟨tb, 3, none⟩ (.slice ad5 t2.ents.length cp5)) = W5 at H6 HT6 HX6 O6 ⊢
      clear hW5
      clear p0 p1 pz pl r0 r1 rz rl d0 d9 d10 d11 dz cl c0 c1 c2 c3 k0 k1 k2 k3 kz q0 q1 qz ql tl HX HT
      have HP5 := Lib.hid (HP.out.step H6.out)
      have HC5 := Lib.hid (HC2.out.step H6.out)
      have HR6 := Lib.hid (HR.out.step H6.out)
      have HB5 : Hid (Below w.heap.size w W5) := Lib.hid (HB2.out.trans (H6.out.mono (by have := HB2.out.size; omega)))
      have OT5 := Lib.hid (OT.out.keep H6.out)
      have OC5 : Hid (OwnC W5 w1.heap.size _ _) := Lib.hid (OC.out.keep H6.out)
      obtain ⟨p0, p1, pz⟩ := cells2 HP5.out
      obtain ⟨⟨⟨d0, -, -, -⟩, -, -, d9, d10, d11⟩, dz⟩ := cells12 HC5.out
      obtain ⟨r0, r1, rz⟩ := cells2 HR6.out
      obtain ⟨q0, q1, qz⟩ := cells2 HX6.out
      obtain ⟨k0, k1, k2, k3, kz⟩ := cells4 HT6.out
      have pl := HP5.out.lt
      have cl := HC5.out.lt
      have rl := HR6.out.lt
      have ql := HX6.out.lt
      have tl := HT6.out.lt
      obtain ⟨g3, hg, ⟨hg3, hg4⟩, ⟨-, hn1, hn2⟩, hat, hfz⟩ := OT5.out.at_ HI.out
      subst hg
      obtain ⟨ea3, ecap3, ⟨⟨⟨u0, u1⟩, u2⟩, u3⟩, -⟩ := hat
      unfold maxLen at hn2
      have hgq : g3 < w2.heap.size := by
        obtain ⟨ps, -, hrow, -⟩ := OT.out
        exact (hrow.lt _ rfl).2
      have hne : g3 ≠ w2.heap.size := by omega
      go_wp2_with fail
      have hcp := OT5.out
      obtain ⟨ps, -, hrow, -⟩ := hcp
      have OT4 := (OT5.out.le (B' := w.heap.size) (by omega)).put HI.out (own_base O6.out (by omega))
      have OC4 := OwnC.over OC5.out (fun b hb => heap_putT (i := i) (u := .slice ad5 t2.ents.length cp5) (t := t2) hb) hrow rfl (by decide) (by decide)
      have HR4 := (((HR6.out.far (b := g3) (o := i * 4) (by omega) (.int .i64 t2.base)).far (b := g3) (o := i * 4 + 1) (by omega) (.int .i64 t2.next)).far (b := g3) (o := i * 4 + 2) (by omega) (.int .i64 t2.mark)).far (b := g3) (o := i * 4 + 3) (by omega) (.slice ad5 t2.ents.length cp5)
      have HB4 := below_putT (i := i) (u := .slice ad5 t2.ents.length cp5) (t := t2) HB5.out (show w.heap.size ≤ g3 by omega)
      have HR7 := HR4.set_ 0 (.slice (some ⟨g3, 0, none⟩) s.tops.length cap2)
      obtain ⟨v0, v1, -⟩ := cells2 (HR7.set_ 1 (.slice b2 nc2 cc2))
      refine bodyPost_ret (v := .tuple #[.agg #[.slice (some ⟨g3, 0, none⟩) s.tops.length cap2, .slice b2 nc2 cc2], .int .i64 0]) (by simp [results, Try.results23, go_sem, v0, v1]) rfl ⟨_, _, rfl, ⟨_, _, rfl, ?_, ?_⟩, ?_⟩
      · exact OwnT.blk (OwnT.blk OT4 HR4 (by decide) (by decide)) HR7 (by decide) (by decide)
      · exact OwnRows.le (OwnC.far (OwnC.far OC4 (by omega)) (by omega)) (by omega)
      · exact (HB4.setCell (p := ⟨w.heap.size + 2, 0, none⟩) (by simp) _).setCell (p := ⟨w.heap.size + 2, 1, none⟩) (by simp) _

end Go.Proofs.Ytblgmjbajnkcdaa
