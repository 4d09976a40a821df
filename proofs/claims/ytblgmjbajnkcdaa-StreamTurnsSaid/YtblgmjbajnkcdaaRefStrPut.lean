/-
  ref21.Put.
-/
import Derived.Test.YtblgmjbajnkcdaaStrWith
import Derived.Test.YtblgmjbajnkcdaaStrPutP
import Derived.Test.YtblgmjbajnkcdaaRefStrTwin
import Derived.Test.YtblgmjbajnkcdaaRefStrGet
import Derived.Test.YtblgmjbajnkcdaaBunG
import Derived.Deep.RegionHeld3
namespace Go.Proofs.Ytblgmjbajnkcdaa
open Go.RowKit

set_option maxHeartbeats 8000000 in
set_option maxRecDepth 100000 in
theorem refStrPut_any {v : Value} {s u : Str} {w : World} {n x : Int} {ga : Option Addr} {gn gc : Nat} (id topic : Int) (k b : ByteArray) (h : StrR w v s) (hu : putS s id topic k b = (u, n, x)) :
    Calls Try.prog 22 #[v, .agg #[.int .i64 id, .slice ga gn gc, .int .i64 topic, .string k, .string b]] w (PutEnd u n x w) := by
  have HS := Lib.hid h
  obtain ⟨a, cap, bb, nc, cc, rfl, hT, -⟩ := h.shape
  by_cases ha : askS s topic = 0
  · rw [putS, if_pos ha] at hu
    have HA := Lib.hid ha
    obtain ⟨hm, h0, h1⟩ := askS_zero.1 ha
    have h4 := hm.1.1
    have HF := Lib.hid (few_of_may hm)
    obtain ⟨i, rfl⟩ : ∃ i : Nat, topic = (i : Int) := ⟨topic.toNat, by omega⟩
    have HI := Lib.hid (show i < s.tops.length by omega)
    obtain ⟨⟨-, hcap, hmx⟩, g, off, rfl, hat⟩ := StrR.top hT (i := i) h0 (by omega)
    rw [show s.tops.getD (i : Int).toNat default = topN s i from rfl] at hat
    obtain ⟨t, ht⟩ : ∃ t, t = topN s i := ⟨_, rfl⟩
    rw [← ht] at hat hu
    obtain ⟨t', y, f, hadd⟩ : ∃ t' y f, addP t id k b = (t', y, f) := ⟨_, _, _, rfl⟩
    rw [hadd] at hu
    simp only [Int.toNat_natCast] at hu hat
    have HADD := Lib.hid hadd
    have HU := Lib.hid hu
    unfold maxLen at hmx
    have HAT := Lib.hid hat
    have h5 : (i : Int) < (s.tops.length : Int) := by omega
    have h6 : (s.tops.length : Int) = 4 := by omega
    have hgw : g < w.heap.size := World.block_lt_of_cell? w _ hat.choose_spec.choose_spec.1.1.1.1
    clear h hT ha hm h4 hu ht hat hadd
    go_enter Try.func22, Try.ntmps22
    go_wp2_with fail
    refine Calls.mono (refStrAsked_any (i : Int) ?_ HA.out) ?_
    · exact HS.out.below (by repeat (first | (with_reducible exact Below.refl _ _) | (with_reducible exact Below.refl _ _) | (with_reducible apply Below.drew) | (with_reducible apply below_alloc) | ((with_reducible refine Below.alloc ?_ ?_ _); rotate_left; focus (first | (simp; done) | (simp; omega) | omega)) | ((with_reducible refine Below.setCell ?_ ?_ _); rotate_left; focus (first | (simp; done) | (simp; omega) | omega))))
    rintro e w1 ⟨rfl, hb⟩
    have HB : Hid (Below w.heap.size w _) := below_step (by repeat (first | (with_reducible exact Below.refl _ _) | (with_reducible exact Below.refl _ _) | (with_reducible apply Below.drew) | (with_reducible apply below_alloc) | ((with_reducible refine Below.alloc ?_ ?_ _); rotate_left; focus (first | (simp; done) | (simp; omega) | omega)) | ((with_reducible refine Below.setCell ?_ ?_ _); rotate_left; focus (first | (simp; done) | (simp; omega) | omega)))) hb
    have P : Blk _ (w.heap.size) _ _ := Blk.step (by repeat (first | ((with_reducible apply Blk.new); focus (first | rfl | (simp; done) | (simp; omega))) | (with_reducible apply Blk.drew) | (with_reducible apply Blk.alloc) | (with_reducible apply Blk.set_) | ((with_reducible apply Blk.far); rotate_left; focus (first | (simp; done) | (simp; omega) | omega)))) hb
    obtain ⟨p0, p1, pz⟩ := cells2 P
    have pl := Blk.lt P
    have HP := Lib.hid P
    clear P
    have HM : Hid (Blk w1 (w.heap.size + 1) 50 [.int .i64 id, .slice ga gn gc, .int .i64 (i : Int), .string k, .string b]) := Blk.step (by repeat (first | (with_reducible exact Blk.new rfl) | ((with_reducible apply Blk.new); focus (first | rfl | (simp; done) | (simp; omega))) | (with_reducible apply Blk.drew) | (with_reducible apply Blk.alloc) | (with_reducible apply Blk.set_) | ((with_reducible apply Blk.far); rotate_left; focus (first | (simp; done) | (simp; omega) | omega)))) hb
    obtain ⟨m0, m1, m2, m3, m4, mz⟩ := cells5 HM.out
    have ml := HM.out.lt
    have R : Blk _ (w.heap.size + 2) _ _ := Blk.step (by repeat (first | ((with_reducible apply Blk.new); focus (first | rfl | (simp; done) | (simp; omega))) | (with_reducible apply Blk.drew) | (with_reducible apply Blk.alloc) | (with_reducible apply Blk.set_) | ((with_reducible apply Blk.far); rotate_left; focus (first | (simp; done) | (simp; omega) | omega)))) hb
    obtain ⟨r0, r1, rz⟩ := cells2 R
    have rl := Blk.lt R
    have HR := Lib.hid R
    clear R
    obtain ⟨ea, ecap, ⟨⟨⟨c0, c1⟩, c2⟩, c3⟩, hTT⟩ := HAT.out.keep HB.out
    have T := Lib.hid hTT
    clear hb hTT
    go_wp2_with fail
    have KS : Hid (∀ W' : World, Below w1.heap.size w1 W' → (W'.cell? ⟨w.heap.size, 0, none⟩ = some (.slice (some ⟨g, off, none⟩) s.tops.length cap) ∧ (W'.cell? ⟨w.heap.size + 1, 0, none⟩ = some (.int .i64 id) ∧ W'.cell? ⟨w.heap.size + 1, 2, none⟩ = some (.int .i64 (i : Int))) ∧ (W'.cell? ⟨w.heap.size + 1, 3, none⟩ = some (.string k) ∧ W'.cell? ⟨w.heap.size + 1, 4, none⟩ = some (.string b))) ∧ ((W'.cell? ⟨g, off + i * 4, none⟩ = some (.int .i64 t.base) ∧ W'.cell? ⟨g, off + i * 4 + 1, none⟩ = some (.int .i64 t.next)) ∧ W'.cell? ⟨g, off + i * 4 + 2, none⟩ = some (.int .i64 t.mark) ∧ W'.cell? ⟨g, off + i * 4 + 3, none⟩ = some (.slice ea t.ents.length ecap))) := fun W' hb => by
      have c := fun (p : Addr) (hp : p.block < w1.heap.size) => hb.cell hp
      refine ⟨⟨(c _ ?_).trans p0, ⟨(c _ ?_).trans m0, (c _ ?_).trans m2⟩, (c _ ?_).trans m3, (c _ ?_).trans m4⟩, ⟨(c _ ?_).trans c0, (c _ ?_).trans c1⟩, (c _ ?_).trans c2, (c _ ?_).trans c3⟩ <;> (simp only []; omega)
    have KT := KS.out w1 (Below.refl _ _)
    go_region_held3 (fun W' => (W'.cell? ⟨w.heap.size, 0, none⟩ = some (.slice (some ⟨g, off, none⟩) s.tops.length cap) ∧ (W'.cell? ⟨w.heap.size + 1, 0, none⟩ = some (.int .i64 id) ∧ W'.cell? ⟨w.heap.size + 1, 2, none⟩ = some (.int .i64 (i : Int))) ∧ (W'.cell? ⟨w.heap.size + 1, 3, none⟩ = some (.string k) ∧ W'.cell? ⟨w.heap.size + 1, 4, none⟩ = some (.string b))) ∧ ((W'.cell? ⟨g, off + i * 4, none⟩ = some (.int .i64 t.base) ∧ W'.cell? ⟨g, off + i * 4 + 1, none⟩ = some (.int .i64 t.next)) ∧ W'.cell? ⟨g, off + i * 4 + 2, none⟩ = some (.int .i64 t.mark) ∧ W'.cell? ⟨g, off + i * 4 + 3, none⟩ = some (.slice ea t.ents.length ecap)))
      (first | (with_reducible exact KT) | (refine KS.out _ ?_; done) | (refine KS.out _ ?_; (repeat (first | (with_reducible exact Below.refl _ _) | (with_reducible exact Below.refl _ _) | (with_reducible apply Below.drew) | (with_reducible apply below_alloc) | ((with_reducible refine Below.alloc ?_ ?_ _); rotate_left; focus (first | (simp; done) | (simp; omega) | omega)) | ((with_reducible refine Below.setCell ?_ ?_ _); rotate_left; focus (first | (simp; done) | (simp; omega) | omega)))); done) | (refine KS.out _ ?_; (repeat (first | (with_reducible exact HQ.out) | (with_reducible exact Below.refl _ _) | (with_reducible apply Below.drew) | (with_reducible apply below_alloc) | ((with_reducible refine Below.alloc ?_ ?_ _); rotate_left; focus (first | (simp; done) | (simp; omega) | omega)) | ((with_reducible refine Below.setCell ?_ ?_ _); rotate_left; focus (first | (simp; done) | (simp; omega) | omega)))); done))
      (first | (go_at_call 55; refine (refAdd_any id k b (T.out.below (Below.drew (Below.refl _ _))) HADD.out).mono ?_; rintro e w2 ⟨ad2, cp2, rfl, ow2, hb⟩; have HQ : Hid (Below w1.heap.size w1 w2) := below_step (Below.drew (Below.refl _ _)) hb; have O2 : Hid (OwnE w2 w1.heap.size _ _) := Lib.hid (own_base ow2 (by simp)); clear hb ow2) | (go_at_call 55; refine (refAdd_any id k b (T.out.below (Below.drew (below_alloc (Below.refl _ _)))) HADD.out).mono ?_; rintro e w2 ⟨ad2, cp2, rfl, ow2, hb⟩; have HQ : Hid (Below w1.heap.size w1 w2) := below_step (Below.drew (below_alloc (Below.refl _ _))) hb; have HY := Lib.hid (Blk.step (Blk.drew (Blk.new (w := w1) (t := 72) (cs := [.int .i64 0, .int .i64 0, .int .i64 0, .slice none 0 0]) rfl)) hb); obtain ⟨y0, y1, y2, y3, yz⟩ := cells4 HY.out; have O2 : Hid (OwnE w2 (w1.heap.size + 1) _ _) := Lib.hid (own_base ow2 (by simp)); clear hb ow2))
    all_goals
      have HP2 := Lib.hid (HP.out.below HQ.out pl)
      have HM2 := Lib.hid (HM.out.below HQ.out ml)
      have HR2 := Lib.hid (HR.out.below HQ.out rl)
      have HB2 : Hid (Below w.heap.size w w2) := Lib.hid (HB.out.trans (HQ.out.mono (by omega)))
      have hw2 : w1.heap.size ≤ w2.heap.size := HQ.out.size
      clear p0 p1 pz m0 m1 m2 m3 m4 mz r0 r1 rz c0 c1 c2 c3 HP HM HR KS KT
      obtain ⟨p0, p1, pz⟩ := cells2 HP2.out
      obtain ⟨m0, m1, m2, m3, m4, mz⟩ := cells5 HM2.out
      obtain ⟨r0, r1, rz⟩ := cells2 HR2.out
      have pl2 := HP2.out.lt
      have ml2 := HM2.out.lt
      have rl2 := HR2.out.lt
      have hu := HU.out
      by_cases hf : f = 0
      · subst hf
        simp only [if_true] at hu
        cases hu
        go_wp2_with fail
        refine Calls.mono (refStrTwin_any (s := s) ?_ HF.out) ?_
        · exact HS.out.below (by repeat (first | (with_reducible exact HB2.out) | (with_reducible exact Below.refl _ _) | (with_reducible apply Below.drew) | (with_reducible apply below_alloc) | ((with_reducible refine Below.alloc ?_ ?_ _); rotate_left; focus (first | (simp; done) | (simp; omega) | omega)) | ((with_reducible refine Below.setCell ?_ ?_ _); rotate_left; focus (first | (simp; done) | (simp; omega) | omega))))
        rintro e w3 ⟨ta, tc, rfl, os, hb⟩
        obtain ⟨a3, cap3, b3, nc3, cc3, ev, -, -⟩ := os.reads.shape
        cases ev
        clear r0 r1 rz m0 m1 m2 m3 m4 mz
        have HB3 : Hid (Below w.heap.size w _) := below_step (by repeat (first | (with_reducible exact HB2.out) | (with_reducible exact Below.refl _ _) | (with_reducible apply Below.drew) | (with_reducible apply below_alloc) | ((with_reducible refine Below.alloc ?_ ?_ _); rotate_left; focus (first | (simp; done) | (simp; omega) | omega)) | ((with_reducible refine Below.setCell ?_ ?_ _); rotate_left; focus (first | (simp; done) | (simp; omega) | omega)))) hb
        have R : Blk _ (w.heap.size + 2) _ _ := Blk.step (by repeat (first | (with_reducible exact HR2.out) | ((with_reducible apply Blk.new); focus (first | rfl | (simp; done) | (simp; omega))) | (with_reducible apply Blk.drew) | (with_reducible apply Blk.alloc) | (with_reducible apply Blk.set_) | ((with_reducible apply Blk.far); rotate_left; focus (first | (simp; done) | (simp; omega) | omega)))) hb
        try simp only [List.set_cons_zero, List.set_cons_succ] at R
        obtain ⟨r0, r1, rz⟩ := cells2 R
        have rl := Blk.lt R
        have HR := Lib.hid R
        clear R
        have HM3 : Hid (Blk w3 (w.heap.size + 1) _ _) := Blk.step (by repeat (first | (with_reducible exact HM2.out) | ((with_reducible apply Blk.new); focus (first | rfl | (simp; done) | (simp; omega))) | (with_reducible apply Blk.drew) | (with_reducible apply Blk.alloc) | (with_reducible apply Blk.set_) | ((with_reducible apply Blk.far); rotate_left; focus (first | (simp; done) | (simp; omega) | omega)))) hb
        obtain ⟨m0, m1, m2, m3, m4, mz⟩ := cells5 HM3.out
        have hb3 : w2.heap.size ≤ w3.heap.size := by have := hb.size; first | omega | (simp at this; omega)
        first
          | (have HT : Hid (Blk w3 w2.heap.size 72 [.int .i64 t'.base, .int .i64 t'.next, .int .i64 t'.mark, .slice ad2 t'.ents.length cp2]) := Blk.step (Blk.new rfl) hb)
          | (have HT : Hid (Blk w3 w1.heap.size 72 [.int .i64 t'.base, .int .i64 t'.next, .int .i64 t'.mark, .slice ad2 t'.ents.length cp2]) := Blk.step ((((HY.out.set_ 0 _).set_ 1 _).set_ 2 _).set_ 3 _) hb)
        have O3 : Hid (OwnE w3 w1.heap.size (.slice ad2 t'.ents.length cp2) t'.ents) := by
          first
            | (refine own_below (own_base (B := w1.heap.size + 1) ?_ (by omega)) hb; (repeat (first | (with_reducible exact O2.out) | (with_reducible apply own_drew) | (with_reducible apply own_alloc) | ((with_reducible apply own_set); rotate_left; focus (first | (simp; done) | (simp; omega) | omega)))); done)
            | (refine own_below (own_base (B := w1.heap.size) ?_ (by omega)) hb; (repeat (first | (with_reducible exact O2.out) | (with_reducible apply own_drew) | (with_reducible apply own_alloc) | ((with_reducible apply own_set); rotate_left; focus (first | (simp; done) | (simp; omega) | omega)))); done)
        obtain ⟨t0, t1, t2, t3, tz⟩ := cells4 HT.out
        have tl := HT.out.lt
        obtain ⟨_, _, ev, ot, oc⟩ := os
        cases ev
        have OT : Hid (OwnT w3 w1.heap.size _ _) := ot.le (by first | omega | (simp; omega))
        have OC : Hid (OwnC w3 w1.heap.size _ _) := OwnRows.le oc (by first | omega | (simp; omega))
        clear hb ot oc
        obtain ⟨g3, hg, ⟨hg1, hg2⟩, ⟨-, hn1, hn2⟩, hat, hfz⟩ := OT.out.at_ HI.out
        subst hg
        obtain ⟨ea3, ecap3, ⟨⟨⟨d0, d1⟩, d2⟩, d3⟩, -⟩ := hat
        unfold maxLen at hn2
        have ml3 := HM3.out.lt
        obtain ⟨ps, -, hrow, -⟩ := OT.out
        have OT2 := OT.out.put HI.out O3.out
        have OC2 := OwnC.over OC.out (fun b hb => heap_putT (i := i) (u := .slice ad2 t'.ents.length cp2) (t := t') hb) hrow rfl (by decide) (by decide)
        have HR2 := (((HR.out.far (b := g3) (o := i * 4) (by omega) (.int .i64 t'.base)).far (b := g3) (o := i * 4 + 1) (by omega) (.int .i64 t'.next)).far (b := g3) (o := i * 4 + 2) (by omega) (.int .i64 t'.mark)).far (b := g3) (o := i * 4 + 3) (by omega) (.slice ad2 t'.ents.length cp2)
        have HB2' := below_putT (i := i) (u := .slice ad2 t'.ents.length cp2) (t := t') HB3.out (show w.heap.size ≤ g3 by omega)
        have HR3 := HR2.set_ 0 (.slice (some ⟨g3, 0, none⟩) s.tops.length cap3)
        have F0 := Lib.hid (OwnT.alloc (OwnT.le (OwnT.blk (OwnT.blk (u := .slice (some ⟨g3, 0, none⟩) s.tops.length cap3) (o := 0) OT2 HR2 (by decide) (by decide)) (u := .slice b3 nc3 cc3) (o := 1) HR3 (by decide) (by decide)) (B' := w.heap.size) (by omega)) (.cells #[.slice (some ⟨g3, 0, none⟩) s.tops.length cap3, .slice b3 nc3 cc3] 25))
        have F1 := Lib.hid (OwnC.alloc (OwnC.far (u := .slice b3 nc3 cc3) (b := w.heap.size + 2) (o := 1) (OwnC.far (u := .slice (some ⟨g3, 0, none⟩) s.tops.length cap3) (b := w.heap.size + 2) (o := 0) OC2 (by omega)) (by omega)) (.cells #[.slice (some ⟨g3, 0, none⟩) s.tops.length cap3, .slice b3 nc3 cc3] 25))
        have F4 := Lib.hid ((HR3.set_ 1 (.slice b3 nc3 cc3)).alloc (.cells #[.slice (some ⟨g3, 0, none⟩) s.tops.length cap3, .slice b3 nc3 cc3] 25))
        have F3 := Lib.hid (Below.alloc ((HB2'.setCell (p := ⟨w.heap.size + 2, 0, none⟩) (by simp) (.slice (some ⟨g3, 0, none⟩) s.tops.length cap3)).setCell (p := ⟨w.heap.size + 2, 1, none⟩) (by simp) (.slice b3 nc3 cc3)) (by simp [putT]; omega) (.cells #[.slice (some ⟨g3, 0, none⟩) s.tops.length cap3, .slice b3 nc3 cc3] 25))
        clear hrow OT2 OC2 HR2 HB2' HR3
        go_wp2_with fail
        obtain ⟨z0, z1, -⟩ := cells2 F4.out
        refine bodyPost_ret (v := .tuple #[.agg #[.slice (some ⟨g3, 0, none⟩) s.tops.length cap3, .slice b3 nc3 cc3], .int .i64 n, .int .i64 0]) (by simp [results, Try.results22, go_sem, z0, z1]) rfl ⟨_, _, rfl, ⟨_, _, rfl, ?_, ?_⟩, ?_⟩
        · exact F0.out
        · exact OwnRows.le (base := w1.heap.size) F1.out (by omega)
        · exact F3.out
      · have hd : (f != 0) = true := by simpa using hf
        rw [if_neg hf] at hu
        cases hu
        go_wp2_with fail
        first
          | (obtain ⟨t0, t1, -⟩ := cells2 (((HR2.out.set_ 0 (.slice none 0 0)).set_ 1 (.slice none 0 0)).alloc (.cells #[.int .i64 t'.base, .int .i64 t'.next, .int .i64 t'.mark, .slice ad2 t'.ents.length cp2] 72)); refine bodyPost_ret (v := .tuple #[.agg #[.slice none 0 0, .slice none 0 0], .int .i64 0, .int .i64 x]) ?_ rfl ⟨_, _, rfl, OwnS.zero _ _, ?_⟩; focus (simp [results, Try.results22, go_sem, t0, t1]; done))
          | (obtain ⟨t0, t1, -⟩ := cells2 ((((((HR2.out.far (b := w1.heap.size) (o := 0) (by omega) (.int .i64 t'.base)).far (b := w1.heap.size) (o := 1) (by omega) (.int .i64 t'.next)).far (b := w1.heap.size) (o := 2) (by omega) (.int .i64 t'.mark)).far (b := w1.heap.size) (o := 3) (by omega) (.slice ad2 t'.ents.length cp2)).set_ 0 (.slice none 0 0)).set_ 1 (.slice none 0 0)); refine bodyPost_ret (v := .tuple #[.agg #[.slice none 0 0, .slice none 0 0], .int .i64 0, .int .i64 x]) ?_ rfl ⟨_, _, rfl, OwnS.zero _ _, ?_⟩; focus (simp [results, Try.results22, go_sem, t0, t1]; done))
        repeat (first | (with_reducible exact HB2.out) | (with_reducible exact Below.refl _ _) | (with_reducible apply Below.drew) | (with_reducible apply below_alloc) | ((with_reducible refine Below.alloc ?_ ?_ _); rotate_left; focus (first | (simp; done) | (simp; omega) | omega)) | ((with_reducible refine Below.setCell ?_ ?_ _); rotate_left; focus (first | (simp; done) | (simp; omega) | omega)))
  · rw [putS, if_neg ha] at hu
    injection hu with hx hy
    injection hy with hy hz
    subst hx
    subst hy
    have HA := Lib.hid hz
    have hd : (x != 0) = true := by rw [← hz]; simpa using ha
    clear h hT ha hz
    go_enter Try.func22, Try.ntmps22
    go_wp2_with fail
    refine Calls.mono (refStrAsked_any topic ?_ HA.out) ?_
    · exact HS.out.below (by repeat (first | (with_reducible exact Below.refl _ _) | (with_reducible exact Below.refl _ _) | (with_reducible apply Below.drew) | (with_reducible apply below_alloc) | ((with_reducible refine Below.alloc ?_ ?_ _); rotate_left; focus (first | (simp; done) | (simp; omega) | omega)) | ((with_reducible refine Below.setCell ?_ ?_ _); rotate_left; focus (first | (simp; done) | (simp; omega) | omega))))
    rintro e w1 ⟨rfl, hb⟩
    have HB : Hid (Below w.heap.size w _) := below_step (by repeat (first | (with_reducible exact Below.refl _ _) | (with_reducible exact Below.refl _ _) | (with_reducible apply Below.drew) | (with_reducible apply below_alloc) | ((with_reducible refine Below.alloc ?_ ?_ _); rotate_left; focus (first | (simp; done) | (simp; omega) | omega)) | ((with_reducible refine Below.setCell ?_ ?_ _); rotate_left; focus (first | (simp; done) | (simp; omega) | omega)))) hb
    have R : Blk _ (w.heap.size + 2) _ _ := Blk.step (by repeat (first | ((with_reducible apply Blk.new); focus (first | rfl | (simp; done) | (simp; omega))) | (with_reducible apply Blk.drew) | (with_reducible apply Blk.alloc) | (with_reducible apply Blk.set_) | ((with_reducible apply Blk.far); rotate_left; focus (first | (simp; done) | (simp; omega) | omega)))) hb
    obtain ⟨r0, r1, rz⟩ := cells2 R
    have rl := Blk.lt R
    have HR := Lib.hid R
    clear R
    clear hb
    go_wp2_with fail
    refine bodyPost_ret (v := .tuple #[.agg #[.slice none 0 0, .slice none 0 0], .int .i64 0, .int .i64 x]) (by simp [results, Try.results22, go_sem, r0, r1]) rfl ⟨_, _, rfl, OwnS.zero _ _, ?_⟩
    repeat (first | (with_reducible exact HB.out) | (with_reducible exact Below.refl _ _) | (with_reducible apply Below.drew) | (with_reducible apply below_alloc) | ((with_reducible refine Below.alloc ?_ ?_ _); rotate_left; focus (first | (simp; done) | (simp; omega) | omega)) | ((with_reducible refine Below.setCell ?_ ?_ _); rotate_left; focus (first | (simp; done) | (simp; omega) | omega)))
end Go.Proofs.Ytblgmjbajnkcdaa
