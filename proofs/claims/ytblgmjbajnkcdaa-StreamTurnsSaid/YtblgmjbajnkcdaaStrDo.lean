/-
  stream.Do.
-/
import Derived.Test.YtblgmjbajnkcdaaStrCommit
import Derived.Test.YtblgmjbajnkcdaaStrWith
import Derived.Test.YtblgmjbajnkcdaaStrGet
import Derived.Test.YtblgmjbajnkcdaaBunD
import Derived.Test.YtblgmjbajnkcdaaBunH
import Derived.Deep.RegionHeld3
namespace Go.Proofs.Ytblgmjbajnkcdaa
open Go.RowKit

set_option maxHeartbeats 8000000 in
set_option maxRecDepth 100000 in
theorem strDo_any {v : Value} {s u : Str} {w : World} {x kind mid mt id time : Int} {ga ma : Option Addr} {gn gc mn mc : Nat} {mk mb : ByteArray} (topic who n : Int) (h : StrR w v s) (hk : strKeys s) (hu : doS s kind topic who n = (u, x)) :
    Calls Try.prog 20 #[v, .agg #[.int .u8 kind, .int .i64 mid, .slice ga gn gc, .int .i64 mt, .string mk, .string mb, .int .i64 id, .int .i64 time, .slice ma mn mc, .int .i64 topic, .int .i64 who, .int .i64 n]] w (DoEnd u x w) := by
  have HS := Lib.hid h
  have HK := Lib.hid hk
  obtain ⟨a, cap, bb, nc, cc, rfl, hT, -⟩ := h.shape
  by_cases ha : askS s topic = 0
  · rw [doS, if_pos ha] at hu
    have HA := Lib.hid ha
    by_cases k4 : kind = 4
    · rw [if_pos k4] at hu
      subst k4
      have HU := Lib.hid hu
      clear h hk hT ha hu
      go_enter Try.func20, Try.ntmps20
      go_wp2_with fail
      refine Calls.mono (strAsked_any topic ?_ HK.out HA.out) ?_
      · exact HS.out.below (by repeat (first | (with_reducible exact Below.refl _ _) | (with_reducible exact Below.refl _ _) | (with_reducible apply Below.drew) | (with_reducible apply below_alloc) | ((with_reducible refine Below.alloc ?_ ?_ _); rotate_left; focus (first | (simp; done) | (simp; omega) | omega)) | ((with_reducible refine Below.setCell ?_ ?_ _); rotate_left; focus (first | (simp; done) | (simp; omega) | omega))))
      rintro e w1 ⟨rfl, hb⟩
      have HB : Hid (Below w.heap.size w _) := below_step (by repeat (first | (with_reducible exact Below.refl _ _) | (with_reducible exact Below.refl _ _) | (with_reducible apply Below.drew) | (with_reducible apply below_alloc) | ((with_reducible refine Below.alloc ?_ ?_ _); rotate_left; focus (first | (simp; done) | (simp; omega) | omega)) | ((with_reducible refine Below.setCell ?_ ?_ _); rotate_left; focus (first | (simp; done) | (simp; omega) | omega)))) hb
      have P : Blk _ (w.heap.size) _ _ := Blk.step (by repeat (first | ((with_reducible apply Blk.new); focus (first | rfl | (simp; done) | (simp; omega))) | (with_reducible apply Blk.drew) | (with_reducible apply Blk.alloc) | (with_reducible apply Blk.set_) | ((with_reducible apply Blk.far); rotate_left; focus (first | (simp; done) | (simp; omega) | omega)))) hb
      obtain ⟨p0, p1, pz⟩ := cells2 P
      have pl := Blk.lt P
      have HP := Lib.hid P
      clear P
      have HC : Hid (Blk w1 (w.heap.size + 1) 52 [.int .u8 4, .int .i64 mid, .slice ga gn gc, .int .i64 mt, .string mk, .string mb, .int .i64 id, .int .i64 time, .slice ma mn mc, .int .i64 topic, .int .i64 who, .int .i64 n]) := Blk.step (by repeat (first | (with_reducible exact Blk.new rfl) | ((with_reducible apply Blk.new); focus (first | rfl | (simp; done) | (simp; omega))) | (with_reducible apply Blk.drew) | (with_reducible apply Blk.alloc) | (with_reducible apply Blk.set_) | ((with_reducible apply Blk.far); rotate_left; focus (first | (simp; done) | (simp; omega) | omega)))) hb
      have R : Blk _ (w.heap.size + 2) _ _ := Blk.step (by repeat (first | ((with_reducible apply Blk.new); focus (first | rfl | (simp; done) | (simp; omega))) | (with_reducible apply Blk.drew) | (with_reducible apply Blk.alloc) | (with_reducible apply Blk.set_) | ((with_reducible apply Blk.far); rotate_left; focus (first | (simp; done) | (simp; omega) | omega)))) hb
      obtain ⟨r0, r1, rz⟩ := cells2 R
      have rl := Blk.lt R
      have HR := Lib.hid R
      clear R
      obtain ⟨⟨⟨d0, d1, d2, d3⟩, ⟨d4, d5, d6, d7⟩, d8, d9, d10, d11⟩, dz⟩ := cells12 HC.out
      have cl := HC.out.lt
      clear hb
      go_wp2_with fail
      refine Calls.mono (strCommit_any topic who n ?_ HA.out HU.out) ?_
      · exact HS.out.below (by repeat (first | (with_reducible exact HB.out) | (with_reducible exact Below.refl _ _) | (with_reducible apply Below.drew) | (with_reducible apply below_alloc) | ((with_reducible refine Below.alloc ?_ ?_ _); rotate_left; focus (first | (simp; done) | (simp; omega) | omega)) | ((with_reducible refine Below.setCell ?_ ?_ _); rotate_left; focus (first | (simp; done) | (simp; omega) | omega))))
      rintro e w2 ⟨ta, tc, rfl, os, hb⟩
      obtain ⟨a3, cap3, b3, nc3, cc3, ev, -, -⟩ := os.reads.shape
      cases ev
      clear p0 p1 pz pl d0 d1 d2 d3 d4 d5 d6 d7 d8 d9 d10 d11 dz cl r0 r1 rz
      have HB2 : Hid (Below w.heap.size w _) := below_step (by repeat (first | (with_reducible exact HB.out) | (with_reducible exact Below.refl _ _) | (with_reducible apply Below.drew) | (with_reducible apply below_alloc) | ((with_reducible refine Below.alloc ?_ ?_ _); rotate_left; focus (first | (simp; done) | (simp; omega) | omega)) | ((with_reducible refine Below.setCell ?_ ?_ _); rotate_left; focus (first | (simp; done) | (simp; omega) | omega)))) hb
      have hz : w.heap.size + 2 < w1.heap.size := rl
      clear rl
      have R : Blk _ (w.heap.size + 2) _ _ := Blk.step (by repeat (first | (with_reducible exact HR.out) | ((with_reducible apply Blk.new); focus (first | rfl | (simp; done) | (simp; omega))) | (with_reducible apply Blk.drew) | (with_reducible apply Blk.alloc) | (with_reducible apply Blk.set_) | ((with_reducible apply Blk.far); rotate_left; focus (first | (simp; done) | (simp; omega) | omega)))) hb
      try simp only [List.set_cons_zero, List.set_cons_succ] at R
      obtain ⟨r0, r1, rz⟩ := cells2 R
      have rl := Blk.lt R
      have HR := Lib.hid R
      clear R
      have OS : Hid (OwnS w2 w.heap.size _ u) := Lib.hid (os.le (by omega))
      clear hb os
      go_wp2_with fail
      have HR3 := HR.out.set_ 0 (.slice a3 u.tops.length cap3)
      obtain ⟨t0, t1, -⟩ := cells2 (HR3.set_ 1 (.slice b3 nc3 cc3))
      refine bodyPost_ret (v := .tuple #[.agg #[.slice a3 u.tops.length cap3, .slice b3 nc3 cc3], .int .i64 x]) (by simp [results, Try.results20, go_sem, t0, t1]) rfl ⟨_, _, rfl, ?_, ?_⟩
      · exact (OS.out.blk HR.out (by decide) (by decide) (by decide) (by decide)).blk HR3 (by decide) (by decide) (by decide) (by decide)
      · exact (HB2.out.setCell (p := ⟨w.heap.size + 2, 0, none⟩) (by simp) _).setCell (p := ⟨w.heap.size + 2, 1, none⟩) (by simp) _
    · rw [if_neg k4] at hu
      have hd4 : ¬ kind = 4 := k4
      by_cases k56 : kind = 5 ∨ kind = 6
      · obtain ⟨r, hr⟩ : ∃ r, (if kind = 5 then trimP (topN s topic) n else compactP (topN s topic) n) = r := ⟨_, rfl⟩
        have hu' : turnS s topic r = (u, x) := by
          rw [← hr]
          rcases k56 with k | k
          · rw [if_pos k] at hu ⊢; exact hu
          · rw [if_neg (by omega : ¬ kind = 5), if_pos k] at hu; rw [if_neg (by omega : ¬ kind = 5)]; exact hu
        obtain ⟨t', f⟩ := r
        obtain ⟨hm, h0, h1⟩ := askS_zero.1 ha
        have h4 := hm.1.1
        have HF := Lib.hid (few_of_may hm)
        have HKT := Lib.hid (hk _ (topN_mem hm h0 h1))
        obtain ⟨i, rfl⟩ : ∃ i : Nat, topic = (i : Int) := ⟨topic.toNat, by omega⟩
        have HI := Lib.hid (show i < s.tops.length by omega)
        obtain ⟨⟨-, hcap, hmx⟩, g, off, rfl, hat⟩ := StrR.top hT (i := i) h0 (by omega)
        rw [show s.tops.getD (i : Int).toNat default = topN s i from rfl] at hat
        obtain ⟨t, ht⟩ : ∃ t, t = topN s i := ⟨_, rfl⟩
        rw [← ht] at hat hr HKT
        rw [turnS] at hu'
        simp only [Int.toNat_natCast] at hu' hat
        have HU := Lib.hid hu'
        unfold maxLen at hmx
        have HAT := Lib.hid hat
        have h5 : (i : Int) < (s.tops.length : Int) := by omega
        have h6 : (s.tops.length : Int) = 4 := by omega
        have hgw : g < w.heap.size := World.block_lt_of_cell? w _ hat.choose_spec.choose_spec.1.1.1.1
        have HR0 := Lib.hid hr
        have HK56 := Lib.hid k56
        clear h hk hT ha hm h4 hu hu' ht hat hr k56 hd4 k4
        rcases HK56.out with rfl | rfl
        all_goals
          first
            | (have CT : Hid (∀ W : World, ∀ {v : Value}, TopR W v t → Calls Try.prog 48 #[v, .int .i64 n] W (TopEnd1 t' f W)) := Lib.hid (fun W v hW => trim_any n hW HKT.out (by have := HR0.out; rwa [if_pos rfl] at this)))
            | (have CT : Hid (∀ W : World, ∀ {v : Value}, TopR W v t → Calls Try.prog 49 #[v, .int .i64 n] W (TopEnd1 t' f W)) := Lib.hid (fun W v hW => compact_any n hW HKT.out (by have := HR0.out; rwa [if_neg (by decide)] at this)))
          go_enter Try.func20, Try.ntmps20
          go_wp2_with fail
          refine Calls.mono (strAsked_any (i : Int) ?_ HK.out HA.out) ?_
          · exact HS.out.below (by repeat (first | (with_reducible exact Below.refl _ _) | (with_reducible exact Below.refl _ _) | (with_reducible apply Below.drew) | (with_reducible apply below_alloc) | ((with_reducible refine Below.alloc ?_ ?_ _); rotate_left; focus (first | (simp; done) | (simp; omega) | omega)) | ((with_reducible refine Below.setCell ?_ ?_ _); rotate_left; focus (first | (simp; done) | (simp; omega) | omega))))
          rintro e w1 ⟨rfl, hb⟩
          have HB : Hid (Below w.heap.size w _) := below_step (by repeat (first | (with_reducible exact Below.refl _ _) | (with_reducible exact Below.refl _ _) | (with_reducible apply Below.drew) | (with_reducible apply below_alloc) | ((with_reducible refine Below.alloc ?_ ?_ _); rotate_left; focus (first | (simp; done) | (simp; omega) | omega)) | ((with_reducible refine Below.setCell ?_ ?_ _); rotate_left; focus (first | (simp; done) | (simp; omega) | omega)))) hb
          have P : Blk _ (w.heap.size) _ _ := Blk.step (by repeat (first | ((with_reducible apply Blk.new); focus (first | rfl | (simp; done) | (simp; omega))) | (with_reducible apply Blk.drew) | (with_reducible apply Blk.alloc) | (with_reducible apply Blk.set_) | ((with_reducible apply Blk.far); rotate_left; focus (first | (simp; done) | (simp; omega) | omega)))) hb
          obtain ⟨p0, p1, pz⟩ := cells2 P
          have pl := Blk.lt P
          have HP := Lib.hid P
          clear P
          have HC : Hid (Blk w1 (w.heap.size + 1) 52 _) := Blk.step (by repeat (first | (with_reducible exact Blk.new rfl) | ((with_reducible apply Blk.new); focus (first | rfl | (simp; done) | (simp; omega))) | (with_reducible apply Blk.drew) | (with_reducible apply Blk.alloc) | (with_reducible apply Blk.set_) | ((with_reducible apply Blk.far); rotate_left; focus (first | (simp; done) | (simp; omega) | omega)))) hb
          have R : Blk _ (w.heap.size + 2) _ _ := Blk.step (by repeat (first | ((with_reducible apply Blk.new); focus (first | rfl | (simp; done) | (simp; omega))) | (with_reducible apply Blk.drew) | (with_reducible apply Blk.alloc) | (with_reducible apply Blk.set_) | ((with_reducible apply Blk.far); rotate_left; focus (first | (simp; done) | (simp; omega) | omega)))) hb
          obtain ⟨r0, r1, rz⟩ := cells2 R
          have rl := Blk.lt R
          have HR := Lib.hid R
          clear R
          obtain ⟨⟨⟨d0, d1, d2, d3⟩, ⟨d4, d5, d6, d7⟩, d8, d9, d10, d11⟩, dz⟩ := cells12 HC.out
          have cl := HC.out.lt
          clear d1 d2 d3 d4 d5 d6 d7 d8 d10
          obtain ⟨ea, ecap, ⟨⟨⟨c0, c1⟩, c2⟩, c3⟩, hTT⟩ := HAT.out.keep HB.out
          have T := Lib.hid hTT
          clear hb hTT
          go_wp2_with fail
          have KS : Hid (∀ W' : World, Below w1.heap.size w1 W' → (W'.cell? ⟨w.heap.size, 0, none⟩ = some (.slice (some ⟨g, off, none⟩) s.tops.length cap) ∧ (W'.cell? ⟨w.heap.size + 1, 9, none⟩ = some (.int .i64 (i : Int)) ∧ W'.cell? ⟨w.heap.size + 1, 11, none⟩ = some (.int .i64 n))) ∧ ((W'.cell? ⟨g, off + i * 4, none⟩ = some (.int .i64 t.base) ∧ W'.cell? ⟨g, off + i * 4 + 1, none⟩ = some (.int .i64 t.next)) ∧ W'.cell? ⟨g, off + i * 4 + 2, none⟩ = some (.int .i64 t.mark) ∧ W'.cell? ⟨g, off + i * 4 + 3, none⟩ = some (.slice ea t.ents.length ecap))) := fun W' hb => by
            have c := fun (p : Addr) (hp : p.block < w1.heap.size) => hb.cell hp
            refine ⟨⟨(c _ ?_).trans p0, (c _ ?_).trans d9, (c _ ?_).trans d11⟩, ⟨(c _ ?_).trans c0, (c _ ?_).trans c1⟩, (c _ ?_).trans c2, (c _ ?_).trans c3⟩ <;> (simp only []; omega)
          have KT := KS.out w1 (Below.refl _ _)
          go_region_held3 (fun W' => (W'.cell? ⟨w.heap.size, 0, none⟩ = some (.slice (some ⟨g, off, none⟩) s.tops.length cap) ∧ (W'.cell? ⟨w.heap.size + 1, 9, none⟩ = some (.int .i64 (i : Int)) ∧ W'.cell? ⟨w.heap.size + 1, 11, none⟩ = some (.int .i64 n))) ∧ ((W'.cell? ⟨g, off + i * 4, none⟩ = some (.int .i64 t.base) ∧ W'.cell? ⟨g, off + i * 4 + 1, none⟩ = some (.int .i64 t.next)) ∧ W'.cell? ⟨g, off + i * 4 + 2, none⟩ = some (.int .i64 t.mark) ∧ W'.cell? ⟨g, off + i * 4 + 3, none⟩ = some (.slice ea t.ents.length ecap)))
            (first | (with_reducible exact KT) | (refine KS.out _ ?_; done) | (refine KS.out _ ?_; (repeat (first | (with_reducible exact Below.refl _ _) | (with_reducible exact Below.refl _ _) | (with_reducible apply Below.drew) | (with_reducible apply below_alloc) | ((with_reducible refine Below.alloc ?_ ?_ _); rotate_left; focus (first | (simp; done) | (simp; omega) | omega)) | ((with_reducible refine Below.setCell ?_ ?_ _); rotate_left; focus (first | (simp; done) | (simp; omega) | omega)))); done) | (refine KS.out _ ?_; (repeat (first | (with_reducible exact HQ.out) | (with_reducible exact Below.refl _ _) | (with_reducible apply Below.drew) | (with_reducible apply below_alloc) | ((with_reducible refine Below.alloc ?_ ?_ _); rotate_left; focus (first | (simp; done) | (simp; omega) | omega)) | ((with_reducible refine Below.setCell ?_ ?_ _); rotate_left; focus (first | (simp; done) | (simp; omega) | omega)))); done))
            (first | (go_at_call 48; refine (CT.out _ (T.out.below (Below.drew (Below.refl _ _)))).mono ?_; rintro e w2 ⟨ad2, cp2, rfl, ow2, hb⟩; have HQ : Hid (Below w1.heap.size w1 w2) := below_step (Below.drew (Below.refl _ _)) hb; have O2 : Hid (OwnE w2 w1.heap.size _ _) := Lib.hid (own_base ow2 (by simp)); clear hb ow2) | (go_at_call 48; refine (CT.out _ (T.out.below (Below.drew (below_alloc (Below.refl _ _))))).mono ?_; rintro e w2 ⟨ad2, cp2, rfl, ow2, hb⟩; have HQ : Hid (Below w1.heap.size w1 w2) := below_step (Below.drew (below_alloc (Below.refl _ _))) hb; have HY := Lib.hid (Blk.step (Blk.drew (Blk.new (w := w1) (t := 72) (cs := [.int .i64 0, .int .i64 0, .int .i64 0, .slice none 0 0]) rfl)) hb); obtain ⟨y0, y1, y2, y3, yz⟩ := cells4 HY.out; have O2 : Hid (OwnE w2 (w1.heap.size + 1) _ _) := Lib.hid (own_base ow2 (by simp)); clear hb ow2) | (go_at_call 49; refine (CT.out _ (T.out.below (Below.drew (Below.refl _ _)))).mono ?_; rintro e w2 ⟨ad2, cp2, rfl, ow2, hb⟩; have HQ : Hid (Below w1.heap.size w1 w2) := below_step (Below.drew (Below.refl _ _)) hb; have O2 : Hid (OwnE w2 w1.heap.size _ _) := Lib.hid (own_base ow2 (by simp)); clear hb ow2) | (go_at_call 49; refine (CT.out _ (T.out.below (Below.drew (below_alloc (Below.refl _ _))))).mono ?_; rintro e w2 ⟨ad2, cp2, rfl, ow2, hb⟩; have HQ : Hid (Below w1.heap.size w1 w2) := below_step (Below.drew (below_alloc (Below.refl _ _))) hb; have HY := Lib.hid (Blk.step (Blk.drew (Blk.new (w := w1) (t := 72) (cs := [.int .i64 0, .int .i64 0, .int .i64 0, .slice none 0 0]) rfl)) hb); obtain ⟨y0, y1, y2, y3, yz⟩ := cells4 HY.out; have O2 : Hid (OwnE w2 (w1.heap.size + 1) _ _) := Lib.hid (own_base ow2 (by simp)); clear hb ow2))
          all_goals
            have HP2 := Lib.hid (HP.out.below HQ.out pl)
            have HC2 := Lib.hid (HC.out.below HQ.out cl)
            have HR2 := Lib.hid (HR.out.below HQ.out rl)
            have HB2 : Hid (Below w.heap.size w w2) := Lib.hid (HB.out.trans (HQ.out.mono (by omega)))
            have hw2 : w1.heap.size ≤ w2.heap.size := HQ.out.size
            clear p0 p1 pz d0 d9 d11 dz r0 r1 rz c0 c1 c2 c3 HP HC HR KS KT
            obtain ⟨p0, p1, pz⟩ := cells2 HP2.out
            obtain ⟨⟨-, -, -, d9, -, -⟩, dz⟩ := cells12 HC2.out
            obtain ⟨r0, r1, rz⟩ := cells2 HR2.out
            have pl2 := HP2.out.lt
            have cl2 := HC2.out.lt
            have rl2 := HR2.out.lt
            have hu := HU.out
            by_cases hf : f = 0
            · subst hf
              simp only [if_true] at hu
              cases hu
              go_wp2_with fail
              refine Calls.mono (with_any (B := w.heap.size) i ?_ HF.out HI.out ?_ ?_) ?_
              · exact HS.out.below (by repeat (first | (with_reducible exact HB2.out) | (with_reducible exact Below.refl _ _) | (with_reducible apply Below.drew) | (with_reducible apply below_alloc) | ((with_reducible refine Below.alloc ?_ ?_ _); rotate_left; focus (first | (simp; done) | (simp; omega) | omega)) | ((with_reducible refine Below.setCell ?_ ?_ _); rotate_left; focus (first | (simp; done) | (simp; omega) | omega))))
              · first
                  | (refine own_base (B := w1.heap.size + 1) ?_ (by omega); (repeat (first | (with_reducible exact O2.out) | (with_reducible apply own_drew) | (with_reducible apply own_alloc) | ((with_reducible apply own_set); rotate_left; focus (first | (simp; done) | (simp; omega) | omega)))); done)
                  | (refine own_base (B := w1.heap.size) ?_ (by omega); (repeat (first | (with_reducible exact O2.out) | (with_reducible apply own_drew) | (with_reducible apply own_alloc) | ((with_reducible apply own_set); rotate_left; focus (first | (simp; done) | (simp; omega) | omega)))); done)
              · first | omega | (simp; omega)
              rintro e w3 ⟨ta, tc, rfl, os, hb⟩
              obtain ⟨a3, cap3, b3, nc3, cc3, ev, -, -⟩ := os.reads.shape
              cases ev
              clear r0 r1 rz
              have HB3 : Hid (Below w.heap.size w _) := below_step (by repeat (first | (with_reducible exact HB2.out) | (with_reducible exact Below.refl _ _) | (with_reducible apply Below.drew) | (with_reducible apply below_alloc) | ((with_reducible refine Below.alloc ?_ ?_ _); rotate_left; focus (first | (simp; done) | (simp; omega) | omega)) | ((with_reducible refine Below.setCell ?_ ?_ _); rotate_left; focus (first | (simp; done) | (simp; omega) | omega)))) hb
              have R : Blk _ (w.heap.size + 2) _ _ := Blk.step (by repeat (first | (with_reducible exact HR2.out) | ((with_reducible apply Blk.new); focus (first | rfl | (simp; done) | (simp; omega))) | (with_reducible apply Blk.drew) | (with_reducible apply Blk.alloc) | (with_reducible apply Blk.set_) | ((with_reducible apply Blk.far); rotate_left; focus (first | (simp; done) | (simp; omega) | omega)))) hb
              try simp only [List.set_cons_zero, List.set_cons_succ] at R
              obtain ⟨r0, r1, rz⟩ := cells2 R
              have rl := Blk.lt R
              have HR := Lib.hid R
              clear R
              have e3 : (s.tops.set i t').length = s.tops.length := List.length_set ..
              have OS : Hid (OwnS w3 w.heap.size (.agg #[.slice a3 s.tops.length cap3, .slice b3 nc3 cc3]) ⟨s.tops.set i t', s.coms⟩) := Lib.hid (by rw [← e3]; exact os)
              clear hb os e3
              go_wp2_with fail
              have HR3 := HR.out.set_ 0 (.slice a3 s.tops.length cap3)
              obtain ⟨t0, t1, -⟩ := cells2 (HR3.set_ 1 (.slice b3 nc3 cc3))
              refine bodyPost_ret (v := .tuple #[.agg #[.slice a3 s.tops.length cap3, .slice b3 nc3 cc3], .int .i64 0]) (by simp [results, Try.results20, go_sem, t0, t1]) rfl ⟨_, _, rfl, ?_, ?_⟩
              · exact (OS.out.blk HR.out (by decide) (by decide) (by decide) (by decide)).blk HR3 (by decide) (by decide) (by decide) (by decide)
              · exact (HB3.out.setCell (p := ⟨w.heap.size + 2, 0, none⟩) (by simp) _).setCell (p := ⟨w.heap.size + 2, 1, none⟩) (by simp) _
            · have hd : (f != 0) = true := by simpa using hf
              rw [if_neg hf] at hu
              cases hu
              go_wp2_with fail
              first
                | (obtain ⟨t0, t1, -⟩ := cells2 (((HR2.out.set_ 0 (.slice none 0 0)).set_ 1 (.slice none 0 0)).alloc (.cells #[.int .i64 t'.base, .int .i64 t'.next, .int .i64 t'.mark, .slice ad2 t'.ents.length cp2] 72)); refine bodyPost_ret (v := .tuple #[.agg #[.slice none 0 0, .slice none 0 0], .int .i64 x]) ?_ rfl ⟨_, _, rfl, OwnS.zero _ _, ?_⟩; focus (simp [results, Try.results20, go_sem, t0, t1]; done))
                | (obtain ⟨t0, t1, -⟩ := cells2 ((((((HR2.out.far (b := w1.heap.size) (o := 0) (by omega) (.int .i64 t'.base)).far (b := w1.heap.size) (o := 1) (by omega) (.int .i64 t'.next)).far (b := w1.heap.size) (o := 2) (by omega) (.int .i64 t'.mark)).far (b := w1.heap.size) (o := 3) (by omega) (.slice ad2 t'.ents.length cp2)).set_ 0 (.slice none 0 0)).set_ 1 (.slice none 0 0)); refine bodyPost_ret (v := .tuple #[.agg #[.slice none 0 0, .slice none 0 0], .int .i64 x]) ?_ rfl ⟨_, _, rfl, OwnS.zero _ _, ?_⟩; focus (simp [results, Try.results20, go_sem, t0, t1]; done))
              repeat (first | (with_reducible exact HB2.out) | (with_reducible exact Below.refl _ _) | (with_reducible apply Below.drew) | (with_reducible apply below_alloc) | ((with_reducible refine Below.alloc ?_ ?_ _); rotate_left; focus (first | (simp; done) | (simp; omega) | omega)) | ((with_reducible refine Below.setCell ?_ ?_ _); rotate_left; focus (first | (simp; done) | (simp; omega) | omega)))
      · have k5 : ¬ kind = 5 := by omega
        have k6 : ¬ kind = 6 := by omega
        rw [if_neg k5, if_neg k6] at hu
        cases hu
        clear h hk hT ha k56 hd4
        go_enter Try.func20, Try.ntmps20
        go_wp2_with fail
        refine Calls.mono (strAsked_any topic ?_ HK.out HA.out) ?_
        · exact HS.out.below (by repeat (first | (with_reducible exact Below.refl _ _) | (with_reducible exact Below.refl _ _) | (with_reducible apply Below.drew) | (with_reducible apply below_alloc) | ((with_reducible refine Below.alloc ?_ ?_ _); rotate_left; focus (first | (simp; done) | (simp; omega) | omega)) | ((with_reducible refine Below.setCell ?_ ?_ _); rotate_left; focus (first | (simp; done) | (simp; omega) | omega))))
        rintro e w1 ⟨rfl, hb⟩
        have HB : Hid (Below w.heap.size w _) := below_step (by repeat (first | (with_reducible exact Below.refl _ _) | (with_reducible exact Below.refl _ _) | (with_reducible apply Below.drew) | (with_reducible apply below_alloc) | ((with_reducible refine Below.alloc ?_ ?_ _); rotate_left; focus (first | (simp; done) | (simp; omega) | omega)) | ((with_reducible refine Below.setCell ?_ ?_ _); rotate_left; focus (first | (simp; done) | (simp; omega) | omega)))) hb
        have HC : Hid (Blk w1 (w.heap.size + 1) 52 _) := Blk.step (by repeat (first | (with_reducible exact Blk.new rfl) | ((with_reducible apply Blk.new); focus (first | rfl | (simp; done) | (simp; omega))) | (with_reducible apply Blk.drew) | (with_reducible apply Blk.alloc) | (with_reducible apply Blk.set_) | ((with_reducible apply Blk.far); rotate_left; focus (first | (simp; done) | (simp; omega) | omega)))) hb
        have R : Blk _ (w.heap.size + 2) _ _ := Blk.step (by repeat (first | ((with_reducible apply Blk.new); focus (first | rfl | (simp; done) | (simp; omega))) | (with_reducible apply Blk.drew) | (with_reducible apply Blk.alloc) | (with_reducible apply Blk.set_) | ((with_reducible apply Blk.far); rotate_left; focus (first | (simp; done) | (simp; omega) | omega)))) hb
        obtain ⟨r0, r1, rz⟩ := cells2 R
        have rl := Blk.lt R
        have HR := Lib.hid R
        clear R
        obtain ⟨⟨⟨d0, -, -, -⟩, -, -, -, -, -⟩, dz⟩ := cells12 HC.out
        clear hb
        go_wp2_with fail
        refine bodyPost_ret (v := .tuple #[.agg #[.slice none 0 0, .slice none 0 0], .int .i64 2]) (by simp [results, Try.results20, go_sem, r0, r1]) rfl ⟨_, _, rfl, OwnS.zero _ _, ?_⟩
        repeat (first | (with_reducible exact HB.out) | (with_reducible exact Below.refl _ _) | (with_reducible apply Below.drew) | (with_reducible apply below_alloc) | ((with_reducible refine Below.alloc ?_ ?_ _); rotate_left; focus (first | (simp; done) | (simp; omega) | omega)) | ((with_reducible refine Below.setCell ?_ ?_ _); rotate_left; focus (first | (simp; done) | (simp; omega) | omega)))
  · rw [doS, if_neg ha] at hu
    injection hu with hx hz
    subst hx
    have HA := Lib.hid hz
    have hd : (x != 0) = true := by rw [← hz]; simpa using ha
    clear h hk hT ha hz
    go_enter Try.func20, Try.ntmps20
    go_wp2_with fail
    refine Calls.mono (strAsked_any topic ?_ HK.out HA.out) ?_
    · exact HS.out.below (by repeat (first | (with_reducible exact Below.refl _ _) | (with_reducible exact Below.refl _ _) | (with_reducible apply Below.drew) | (with_reducible apply below_alloc) | ((with_reducible refine Below.alloc ?_ ?_ _); rotate_left; focus (first | (simp; done) | (simp; omega) | omega)) | ((with_reducible refine Below.setCell ?_ ?_ _); rotate_left; focus (first | (simp; done) | (simp; omega) | omega))))
    rintro e w1 ⟨rfl, hb⟩
    have HB : Hid (Below w.heap.size w _) := below_step (by repeat (first | (with_reducible exact Below.refl _ _) | (with_reducible exact Below.refl _ _) | (with_reducible apply Below.drew) | (with_reducible apply below_alloc) | ((with_reducible refine Below.alloc ?_ ?_ _); rotate_left; focus (first | (simp; done) | (simp; omega) | omega)) | ((with_reducible refine Below.setCell ?_ ?_ _); rotate_left; focus (first | (simp; done) | (simp; omega) | omega)))) hb
    have R : Blk _ (w.heap.size + 2) _ _ := Blk.step (by repeat (first | ((with_reducible apply Blk.new); focus (first | rfl | (simp; done) | (simp; omega))) | (with_reducible apply Blk.drew) | (with_reducible apply Blk.alloc) | (with_reducible apply Blk.set_) | ((with_reducible apply Blk.far); rotate_left; focus (first | (simp; done) | (simp; omega) | omega)))) hb
    obtain ⟨r0, r1, rz⟩ := cells2 R
    have rl := Blk.lt R
    have HR := Lib.hid R
    clear R
    clear hb
    go_wp2_with fail
    refine bodyPost_ret (v := .tuple #[.agg #[.slice none 0 0, .slice none 0 0], .int .i64 x]) (by simp [results, Try.results20, go_sem, r0, r1]) rfl ⟨_, _, rfl, OwnS.zero _ _, ?_⟩
    repeat (first | (with_reducible exact HB.out) | (with_reducible exact Below.refl _ _) | (with_reducible apply Below.drew) | (with_reducible apply below_alloc) | ((with_reducible refine Below.alloc ?_ ?_ _); rotate_left; focus (first | (simp; done) | (simp; omega) | omega)) | ((with_reducible refine Below.setCell ?_ ?_ _); rotate_left; focus (first | (simp; done) | (simp; omega) | omega)))
end Go.Proofs.Ytblgmjbajnkcdaa
