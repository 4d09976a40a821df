/-
  The document's Fetch of models.
-/
import Derived.Test.YtmhjfbapajjiaabMdlRGet
namespace Go.Proofs.Ytmhjfbapajjiaab
open Go.RowKit

set_option maxHeartbeats 8000000 in
set_option maxRecDepth 100000 in
theorem refMdlFetch_any {v : Value} {m : Mdl} {w : World} {x : Ent} {y : Int} (n o : Int) (h : MdlR w v m) (hu : fetchM m n o = (x, y)) :
    Calls Try.prog 28 #[v, .int .i64 n, .int .i64 o] w (EntEnd x y w) := by
  have S := Lib.hid h
  obtain ⟨a, cap, b, nc, cc, rfl, hT, -⟩ := h.shape
  rw [fetchM] at hu
  by_cases hm : mayM m
  · have HM := Lib.hid (show true = decide (mayM m) by simp [hm])
    have h4 := hm.1.1
    by_cases hr : 0 ≤ n ∧ n < 4
    · rw [if_pos (askM_zero.2 ⟨hm, hr.1, hr.2⟩)] at hu
      obtain ⟨h0, h1⟩ := hr
      obtain ⟨⟨-, hcap, hmx⟩, g, off, rfl, hat⟩ := MdlR.pl hT (i := n) h0 (by omega)
      rw [show m.tops.getD n.toNat default = plN m n from rfl] at hat
      have HSH := Lib.hid (show shapedP (plN m n) from mayM_shaped hm _ (plN_mem hm h0 h1))
      obtain ⟨p, hp⟩ : ∃ p, p = plN m n := ⟨_, rfl⟩
      rw [← hp] at hu hat HSH
      have HAT := Lib.hid hat
      obtain ⟨an, han⟩ : ∃ an, an = p.all.length := ⟨_, rfl⟩
      have HAN := Lib.hid han
      rw [fetchL, ← han] at hu
      have HU := Lib.hid hu
      obtain ⟨nt, hnt⟩ : ∃ nt, nt = m.tops.length := ⟨_, rfl⟩
      rw [← hnt] at S hcap h4 ⊢
      subst h4
      unfold maxLen at hmx
      clear h hT hnt hm hat han hu hp
      by_cases c1 : o < 0
      · have hu := HU.out
        rw [if_pos c1] at hu
        cases hu
        go_enter Try.func28, Try.ntmps28
        go_wp2_with fail
        refine Calls.mono (refMdlMay_any ?_ HM.out) ?_
        · exact S.out.below (by repeat (first | (with_reducible exact Below.refl _ _) | (with_reducible exact Below.refl _ _) | (with_reducible apply Below.drew) | (with_reducible apply below_alloc) | ((with_reducible refine Below.alloc ?_ ?_ _); rotate_left; focus (first | (simp; done) | (simp; omega) | omega)) | ((with_reducible refine Below.setCell ?_ ?_ _); rotate_left; focus (first | (simp; done) | (simp; omega) | omega))))
        rintro e w1 ⟨rfl, hb⟩
        have HB : Hid (Below w.heap.size w _) := below_step (by repeat (first | (with_reducible exact Below.refl _ _) | (with_reducible exact Below.refl _ _) | (with_reducible apply Below.drew) | (with_reducible apply below_alloc) | ((with_reducible refine Below.alloc ?_ ?_ _); rotate_left; focus (first | (simp; done) | (simp; omega) | omega)) | ((with_reducible refine Below.setCell ?_ ?_ _); rotate_left; focus (first | (simp; done) | (simp; omega) | omega)))) hb
        have R : Blk _ (w.heap.size + 1) _ _ := Blk.step (by repeat (first | ((with_reducible apply Blk.new); focus (first | rfl | (simp; done) | (simp; omega))) | (with_reducible apply Blk.drew) | (with_reducible apply Blk.alloc) | (with_reducible apply Blk.set_) | ((with_reducible apply Blk.far); rotate_left; focus (first | (simp; done) | (simp; omega) | omega)))) hb
        obtain ⟨r0, r1, r2, r3, rz⟩ := cells4 R
        have rl := Blk.lt R
        have HR := Lib.hid R
        clear R
        clear hb
        go_wp2_with fail
        refine Calls.mono (refIn_any (n) (4) (z := true) (by simp; omega)) ?_
        rintro e w9 ⟨rfl, rfl⟩
        go_wp2_with fail
        obtain ⟨t0, t1, t2, t3, -⟩ := cells4 ((((HR.out.set_ 0 (.int .i64 0)).set_ 1 (.int .i64 0)).set_ 2 (.string ⟨#[]⟩)).set_ 3 (.string ⟨#[]⟩))
        refine bodyPost_ret (v := .tuple #[.agg #[.int .i64 0, .int .i64 0, .string ⟨#[]⟩, .string ⟨#[]⟩], .int .i64 2]) (by simp [results, Try.results28, go_sem, t0, t1, t2, t3]) rfl ⟨rfl, ?_⟩
        repeat (first | (with_reducible exact HB.out) | (with_reducible exact Below.refl _ _) | (with_reducible apply Below.drew) | (with_reducible apply below_alloc) | ((with_reducible refine Below.alloc ?_ ?_ _); rotate_left; focus (first | (simp; done) | (simp; omega) | omega)) | ((with_reducible refine Below.setCell ?_ ?_ _); rotate_left; focus (first | (simp; done) | (simp; omega) | omega)))
      by_cases c2 : (an : Int) ≤ o
      · have hu := HU.out
        rw [if_neg c1, if_pos c2] at hu
        cases hu
        go_enter Try.func28, Try.ntmps28
        go_wp2_with fail
        refine Calls.mono (refMdlMay_any ?_ HM.out) ?_
        · exact S.out.below (by repeat (first | (with_reducible exact Below.refl _ _) | (with_reducible exact Below.refl _ _) | (with_reducible apply Below.drew) | (with_reducible apply below_alloc) | ((with_reducible refine Below.alloc ?_ ?_ _); rotate_left; focus (first | (simp; done) | (simp; omega) | omega)) | ((with_reducible refine Below.setCell ?_ ?_ _); rotate_left; focus (first | (simp; done) | (simp; omega) | omega))))
        rintro e w1 ⟨rfl, hb⟩
        have HB : Hid (Below w.heap.size w _) := below_step (by repeat (first | (with_reducible exact Below.refl _ _) | (with_reducible exact Below.refl _ _) | (with_reducible apply Below.drew) | (with_reducible apply below_alloc) | ((with_reducible refine Below.alloc ?_ ?_ _); rotate_left; focus (first | (simp; done) | (simp; omega) | omega)) | ((with_reducible refine Below.setCell ?_ ?_ _); rotate_left; focus (first | (simp; done) | (simp; omega) | omega)))) hb
        have P : Blk _ (w.heap.size) _ _ := Blk.step (by repeat (first | ((with_reducible apply Blk.new); focus (first | rfl | (simp; done) | (simp; omega))) | (with_reducible apply Blk.drew) | (with_reducible apply Blk.alloc) | (with_reducible apply Blk.set_) | ((with_reducible apply Blk.far); rotate_left; focus (first | (simp; done) | (simp; omega) | omega)))) hb
        obtain ⟨p0, p1, pz⟩ := cells2 P
        have pl := Blk.lt P
        have HP := Lib.hid P
        clear P
        have R : Blk _ (w.heap.size + 1) _ _ := Blk.step (by repeat (first | ((with_reducible apply Blk.new); focus (first | rfl | (simp; done) | (simp; omega))) | (with_reducible apply Blk.drew) | (with_reducible apply Blk.alloc) | (with_reducible apply Blk.set_) | ((with_reducible apply Blk.far); rotate_left; focus (first | (simp; done) | (simp; omega) | omega)))) hb
        obtain ⟨r0, r1, r2, r3, rz⟩ := cells4 R
        have rl := Blk.lt R
        have HR := Lib.hid R
        clear R
        obtain ⟨ea, ecap, ⟨⟨d0, d1⟩, d2⟩, hPl⟩ := HAT.out.keep HB.out
        have PP := Lib.hid hPl
        have hg : g < w1.heap.size := World.block_lt_of_cell? w1 _ d0
        obtain ⟨tb, htb⟩ : ∃ tb, tb = p.base := ⟨_, rfl⟩
        obtain ⟨tm, htm⟩ : ∃ tm, tm = p.mark := ⟨_, rfl⟩
        rw [← htb] at d1 PP
        rw [← htm] at d2 PP
        rw [← HAN.out] at d0 PP
        have HTB := Lib.hid htb
        clear hPl htm htb
        clear hb
        go_wp2_with fail
        refine Calls.mono (refIn_any (n) (4) (z := true) (by simp; omega)) ?_
        rintro e w9 ⟨rfl, rfl⟩
        go_wp2_with fail
        obtain ⟨t0, t1, t2, t3⟩ := cells4_alloc ((((HR.out.set_ 0 (.int .i64 0)).set_ 1 (.int .i64 0)).set_ 2 (.string ⟨#[]⟩)).set_ 3 (.string ⟨#[]⟩))
        refine bodyPost_ret (v := .tuple #[.agg #[.int .i64 0, .int .i64 0, .string ⟨#[]⟩, .string ⟨#[]⟩], .int .i64 170]) (by simp [results, Try.results28, go_sem, t0, t1, t2, t3]) rfl ⟨rfl, ?_⟩
        repeat (first | (with_reducible exact HB.out) | (with_reducible exact Below.refl _ _) | (with_reducible apply Below.drew) | (with_reducible apply below_alloc) | ((with_reducible refine Below.alloc ?_ ?_ _); rotate_left; focus (first | (simp; done) | (simp; omega) | omega)) | ((with_reducible refine Below.setCell ?_ ?_ _); rotate_left; focus (first | (simp; done) | (simp; omega) | omega)))
      obtain ⟨pb, hpb⟩ : ∃ pb, pb = p.base := ⟨_, rfl⟩
      have HPB := Lib.hid hpb
      clear hpb
      by_cases c3 : o < pb
      · have hu := HU.out
        rw [if_neg c1, if_neg c2, if_pos (by rw [← HPB.out]; exact c3)] at hu
        cases hu
        go_enter Try.func28, Try.ntmps28
        go_wp2_with fail
        refine Calls.mono (refMdlMay_any ?_ HM.out) ?_
        · exact S.out.below (by repeat (first | (with_reducible exact Below.refl _ _) | (with_reducible exact Below.refl _ _) | (with_reducible apply Below.drew) | (with_reducible apply below_alloc) | ((with_reducible refine Below.alloc ?_ ?_ _); rotate_left; focus (first | (simp; done) | (simp; omega) | omega)) | ((with_reducible refine Below.setCell ?_ ?_ _); rotate_left; focus (first | (simp; done) | (simp; omega) | omega))))
        rintro e w1 ⟨rfl, hb⟩
        have HB : Hid (Below w.heap.size w _) := below_step (by repeat (first | (with_reducible exact Below.refl _ _) | (with_reducible exact Below.refl _ _) | (with_reducible apply Below.drew) | (with_reducible apply below_alloc) | ((with_reducible refine Below.alloc ?_ ?_ _); rotate_left; focus (first | (simp; done) | (simp; omega) | omega)) | ((with_reducible refine Below.setCell ?_ ?_ _); rotate_left; focus (first | (simp; done) | (simp; omega) | omega)))) hb
        have P : Blk _ (w.heap.size) _ _ := Blk.step (by repeat (first | ((with_reducible apply Blk.new); focus (first | rfl | (simp; done) | (simp; omega))) | (with_reducible apply Blk.drew) | (with_reducible apply Blk.alloc) | (with_reducible apply Blk.set_) | ((with_reducible apply Blk.far); rotate_left; focus (first | (simp; done) | (simp; omega) | omega)))) hb
        obtain ⟨p0, p1, pz⟩ := cells2 P
        have pl := Blk.lt P
        have HP := Lib.hid P
        clear P
        have R : Blk _ (w.heap.size + 1) _ _ := Blk.step (by repeat (first | ((with_reducible apply Blk.new); focus (first | rfl | (simp; done) | (simp; omega))) | (with_reducible apply Blk.drew) | (with_reducible apply Blk.alloc) | (with_reducible apply Blk.set_) | ((with_reducible apply Blk.far); rotate_left; focus (first | (simp; done) | (simp; omega) | omega)))) hb
        obtain ⟨r0, r1, r2, r3, rz⟩ := cells4 R
        have rl := Blk.lt R
        have HR := Lib.hid R
        clear R
        obtain ⟨ea, ecap, ⟨⟨d0, d1⟩, d2⟩, hPl⟩ := HAT.out.keep HB.out
        have PP := Lib.hid hPl
        have hg : g < w1.heap.size := World.block_lt_of_cell? w1 _ d0
        obtain ⟨tb, htb⟩ : ∃ tb, tb = p.base := ⟨_, rfl⟩
        obtain ⟨tm, htm⟩ : ∃ tm, tm = p.mark := ⟨_, rfl⟩
        rw [← htb] at d1 PP
        rw [← htm] at d2 PP
        rw [← HAN.out] at d0 PP
        have HTB := Lib.hid htb
        obtain rfl : tb = pb := by rw [htb, HPB.out]
        clear hPl htm htb
        clear hb
        go_wp2_with fail
        refine Calls.mono (refIn_any (n) (4) (z := true) (by simp; omega)) ?_
        rintro e w9 ⟨rfl, rfl⟩
        go_wp2_with fail
        obtain ⟨t0, t1, t2, t3⟩ := cells4_alloc ((((HR.out.set_ 0 (.int .i64 0)).set_ 1 (.int .i64 0)).set_ 2 (.string ⟨#[]⟩)).set_ 3 (.string ⟨#[]⟩))
        refine bodyPost_ret (v := .tuple #[.agg #[.int .i64 0, .int .i64 0, .string ⟨#[]⟩, .string ⟨#[]⟩], .int .i64 171]) (by simp [results, Try.results28, go_sem, t0, t1, t2, t3]) rfl ⟨rfl, ?_⟩
        repeat (first | (with_reducible exact HB.out) | (with_reducible exact Below.refl _ _) | (with_reducible apply Below.drew) | (with_reducible apply below_alloc) | ((with_reducible refine Below.alloc ?_ ?_ _); rotate_left; focus (first | (simp; done) | (simp; omega) | omega)) | ((with_reducible refine Below.setCell ?_ ?_ _); rotate_left; focus (first | (simp; done) | (simp; omega) | omega)))
      obtain ⟨i, rfl⟩ : ∃ i : Nat, o = (i : Int) := ⟨o.toNat, by omega⟩
      have hu := HU.out
      rw [if_neg c1, if_neg c2, if_neg (by rw [← HPB.out]; exact c3), Int.toNat_natCast] at hu
      have hil : i < p.all.length := by have := HAN.out; omega
      have hi1 : (i : Int) < (an : Int) := by omega
      obtain ⟨z, hz⟩ : ∃ z, z = p.all.getD i default := ⟨_, rfl⟩
      obtain ⟨q, hq⟩ : ∃ q, q = keptI p i := ⟨_, rfl⟩
      have KK : Hid (∀ (W : World) {v : Value}, PlR W v p → Calls Try.prog 70 #[v, .int .i64 (i : Int)] W fun e w' => e = .returned (.bool q) ∧ Below W.heap.size W w') := Lib.hid (fun W v hW => by rw [hq]; exact refKept_any i hW HSH.out hil)
      rw [← hz, ← hq] at hu
      have HZ := Lib.hid hz
      have HIL := Lib.hid hil
      have HU2 := Lib.hid hu
      clear hu hz hq hil
      go_enter Try.func28, Try.ntmps28
      go_wp2_with fail
      refine Calls.mono (refMdlMay_any ?_ HM.out) ?_
      · exact S.out.below (by repeat (first | (with_reducible exact Below.refl _ _) | (with_reducible exact Below.refl _ _) | (with_reducible apply Below.drew) | (with_reducible apply below_alloc) | ((with_reducible refine Below.alloc ?_ ?_ _); rotate_left; focus (first | (simp; done) | (simp; omega) | omega)) | ((with_reducible refine Below.setCell ?_ ?_ _); rotate_left; focus (first | (simp; done) | (simp; omega) | omega))))
      rintro e w1 ⟨rfl, hb⟩
      have HB : Hid (Below w.heap.size w _) := below_step (by repeat (first | (with_reducible exact Below.refl _ _) | (with_reducible exact Below.refl _ _) | (with_reducible apply Below.drew) | (with_reducible apply below_alloc) | ((with_reducible refine Below.alloc ?_ ?_ _); rotate_left; focus (first | (simp; done) | (simp; omega) | omega)) | ((with_reducible refine Below.setCell ?_ ?_ _); rotate_left; focus (first | (simp; done) | (simp; omega) | omega)))) hb
      have P : Blk _ (w.heap.size) _ _ := Blk.step (by repeat (first | ((with_reducible apply Blk.new); focus (first | rfl | (simp; done) | (simp; omega))) | (with_reducible apply Blk.drew) | (with_reducible apply Blk.alloc) | (with_reducible apply Blk.set_) | ((with_reducible apply Blk.far); rotate_left; focus (first | (simp; done) | (simp; omega) | omega)))) hb
      obtain ⟨p0, p1, pz⟩ := cells2 P
      have pl := Blk.lt P
      have HP := Lib.hid P
      clear P
      have R : Blk _ (w.heap.size + 1) _ _ := Blk.step (by repeat (first | ((with_reducible apply Blk.new); focus (first | rfl | (simp; done) | (simp; omega))) | (with_reducible apply Blk.drew) | (with_reducible apply Blk.alloc) | (with_reducible apply Blk.set_) | ((with_reducible apply Blk.far); rotate_left; focus (first | (simp; done) | (simp; omega) | omega)))) hb
      obtain ⟨r0, r1, r2, r3, rz⟩ := cells4 R
      have rl := Blk.lt R
      have HR := Lib.hid R
      clear R
      obtain ⟨ea, ecap, ⟨⟨d0, d1⟩, d2⟩, hPl⟩ := HAT.out.keep HB.out
      have PP := Lib.hid hPl
      have hg : g < w1.heap.size := World.block_lt_of_cell? w1 _ d0
      obtain ⟨tb, htb⟩ : ∃ tb, tb = p.base := ⟨_, rfl⟩
      obtain ⟨tm, htm⟩ : ∃ tm, tm = p.mark := ⟨_, rfl⟩
      rw [← htb] at d1 PP
      rw [← htm] at d2 PP
      rw [← HAN.out] at d0 PP
      have HTB := Lib.hid htb
      obtain rfl : tb = pb := by rw [htb, HPB.out]
      clear hPl htm htb
      clear hb
      go_wp2_with fail
      refine Calls.mono (refIn_any (n) (4) (z := true) (by simp; omega)) ?_
      rintro e w9 ⟨rfl, rfl⟩
      go_wp2_with fail
      refine Calls.mono (KK.out _ ?_) ?_
      · exact PP.out.below (by repeat (first | (with_reducible exact Below.refl _ _) | (with_reducible exact Below.refl _ _) | (with_reducible apply Below.drew) | (with_reducible apply below_alloc) | ((with_reducible refine Below.alloc ?_ ?_ _); rotate_left; focus (first | (simp; done) | (simp; omega) | omega)) | ((with_reducible refine Below.setCell ?_ ?_ _); rotate_left; focus (first | (simp; done) | (simp; omega) | omega))))
      rintro e w2 ⟨rfl, hb⟩
      have HB2 : Hid (Below w.heap.size w w2) := below_step (by repeat (first | (with_reducible exact HB.out) | (with_reducible exact Below.refl _ _) | (with_reducible apply Below.drew) | (with_reducible apply below_alloc) | ((with_reducible refine Below.alloc ?_ ?_ _); rotate_left; focus (first | (simp; done) | (simp; omega) | omega)) | ((with_reducible refine Below.setCell ?_ ?_ _); rotate_left; focus (first | (simp; done) | (simp; omega) | omega)))) hb
      have HB12 : Hid (Below w9.heap.size w9 w2) := below_step (by repeat (first | (with_reducible exact Below.refl _ _) | (with_reducible exact Below.refl _ _) | (with_reducible apply Below.drew) | (with_reducible apply below_alloc) | ((with_reducible refine Below.alloc ?_ ?_ _); rotate_left; focus (first | (simp; done) | (simp; omega) | omega)) | ((with_reducible refine Below.setCell ?_ ?_ _); rotate_left; focus (first | (simp; done) | (simp; omega) | omega)))) hb
      replace HR : Hid (Blk w2 (w.heap.size + 1) 60 _) := Blk.step (by repeat (first | (with_reducible exact HR.out) | ((with_reducible apply Blk.new); focus (first | rfl | (simp; done) | (simp; omega))) | (with_reducible apply Blk.drew) | (with_reducible apply Blk.alloc) | (with_reducible apply Blk.set_) | ((with_reducible apply Blk.far); rotate_left; focus (first | (simp; done) | (simp; omega) | omega)))) hb
      have Q : Blk _ (w9.heap.size) _ _ := Blk.step (by repeat (first | ((with_reducible apply Blk.new); focus (first | rfl | (simp; done) | (simp; omega))) | (with_reducible apply Blk.drew) | (with_reducible apply Blk.alloc) | (with_reducible apply Blk.set_) | ((with_reducible apply Blk.far); rotate_left; focus (first | (simp; done) | (simp; omega) | omega)))) hb
      obtain ⟨q0, q1, q2, qz⟩ := cells3 Q
      have ql := Blk.lt Q
      have HQ := Lib.hid Q
      clear Q
      clear hb r0 r1 r2 r3 rz rl p0 p1 pz pl HP d0 d1 d2
      obtain ⟨r0, r1, r2, r3, rz⟩ := cells4 HR.out
      have rl := HR.out.lt
      obtain ⟨a9, cap9, ev, hsl⟩ := PP.out.below HB12.out
      have hu := HU2.out
      cases q
      · rw [if_neg (by decide)] at hu
        cases hu
        clear HU HU2 hsl ev
        go_wp2_with fail
        obtain ⟨t0, t1, t2, t3, -⟩ := cells4 ((((HR.out.set_ 0 (.int .i64 0)).set_ 1 (.int .i64 0)).set_ 2 (.string ⟨#[]⟩)).set_ 3 (.string ⟨#[]⟩))
        refine bodyPost_ret (v := .tuple #[.agg #[.int .i64 0, .int .i64 0, .string ⟨#[]⟩, .string ⟨#[]⟩], .int .i64 172]) (by simp [results, Try.results28, go_sem, t0, t1, t2, t3]) rfl ⟨rfl, ?_⟩
        repeat (first | (with_reducible exact HB2.out) | (with_reducible exact Below.refl _ _) | (with_reducible apply Below.drew) | (with_reducible apply below_alloc) | ((with_reducible refine Below.alloc ?_ ?_ _); rotate_left; focus (first | (simp; done) | (simp; omega) | omega)) | ((with_reducible refine Below.setCell ?_ ?_ _); rotate_left; focus (first | (simp; done) | (simp; omega) | omega)))
      · rw [if_pos rfl] at hu
        injection hu with hx9 hy9
        subst hx9
        subst hy9
        injection ev with ev
        simp at ev
        obtain ⟨⟨e9, -, e8⟩, -⟩ := ev
        subst e9
        subst e8
        obtain ⟨⟨_, hcap9⟩, ⟨hmx9, _⟩, hd⟩ := hsl.ents
        obtain ⟨bb, of9, ha, hat⟩ := hd (by have := HIL.out; omega)
        subst ha
        have cc1 := hat i HIL.out
        rw [← HZ.out] at cc1
        have e0 := cc1.1.1.1
        have e1 := cc1.1.1.2
        have e2 := cc1.1.2
        have e3 := cc1.2
        have hbl : bb < w2.heap.size := World.block_lt_of_cell? w2 _ e0
        rw [← HAN.out] at hcap9
        unfold maxLen at hmx9
        clear hsl hd hat cc1 HU HU2
        go_wp2_with fail
        obtain ⟨t0, t1, t2, t3, -⟩ := cells4 ((((HR.out.set_ 0 (.int .i64 z.off)).set_ 1 (.int .i64 z.id)).set_ 2 (.string z.key)).set_ 3 (.string z.body))
        refine bodyPost_ret (v := .tuple #[.agg #[.int .i64 z.off, .int .i64 z.id, .string z.key, .string z.body], .int .i64 0]) (by simp [results, Try.results28, go_sem, t0, t1, t2, t3]) rfl ⟨rfl, ?_⟩
        repeat (first | (with_reducible exact HB2.out) | (with_reducible exact Below.refl _ _) | (with_reducible apply Below.drew) | (with_reducible apply below_alloc) | ((with_reducible refine Below.alloc ?_ ?_ _); rotate_left; focus (first | (simp; done) | (simp; omega) | omega)) | ((with_reducible refine Below.setCell ?_ ?_ _); rotate_left; focus (first | (simp; done) | (simp; omega) | omega)))
    · have e2 : askM m n = 2 := by rw [askM, if_pos hm, if_neg hr]
      rw [if_neg (by rw [e2]; decide), e2] at hu
      cases hu
      obtain ⟨nt, hnt⟩ : ∃ nt, nt = m.tops.length := ⟨_, rfl⟩
      rw [← hnt] at S ⊢
      have HRR := Lib.hid hr
      clear h hT hnt hm h4 e2 hr
      go_enter Try.func28, Try.ntmps28
      go_wp2_with fail
      refine Calls.mono (refMdlMay_any ?_ HM.out) ?_
      · exact S.out.below (by repeat (first | (with_reducible exact Below.refl _ _) | (with_reducible exact Below.refl _ _) | (with_reducible apply Below.drew) | (with_reducible apply below_alloc) | ((with_reducible refine Below.alloc ?_ ?_ _); rotate_left; focus (first | (simp; done) | (simp; omega) | omega)) | ((with_reducible refine Below.setCell ?_ ?_ _); rotate_left; focus (first | (simp; done) | (simp; omega) | omega))))
      rintro e w1 ⟨rfl, hb⟩
      have HB : Hid (Below w.heap.size w _) := below_step (by repeat (first | (with_reducible exact Below.refl _ _) | (with_reducible exact Below.refl _ _) | (with_reducible apply Below.drew) | (with_reducible apply below_alloc) | ((with_reducible refine Below.alloc ?_ ?_ _); rotate_left; focus (first | (simp; done) | (simp; omega) | omega)) | ((with_reducible refine Below.setCell ?_ ?_ _); rotate_left; focus (first | (simp; done) | (simp; omega) | omega)))) hb
      have R : Blk _ (w.heap.size + 1) _ _ := Blk.step (by repeat (first | ((with_reducible apply Blk.new); focus (first | rfl | (simp; done) | (simp; omega))) | (with_reducible apply Blk.drew) | (with_reducible apply Blk.alloc) | (with_reducible apply Blk.set_) | ((with_reducible apply Blk.far); rotate_left; focus (first | (simp; done) | (simp; omega) | omega)))) hb
      obtain ⟨r0, r1, r2, r3, rz⟩ := cells4 R
      have rl := Blk.lt R
      have HR := Lib.hid R
      clear R
      clear hb
      go_wp2_with fail
      refine Calls.mono (refIn_any (n) (4) (z := false) (by simpa using HRR.out)) ?_
      rintro e w9 ⟨rfl, rfl⟩
      go_wp2_with fail
      obtain ⟨t0, t1, t2, t3, -⟩ := cells4 ((((HR.out.set_ 0 (.int .i64 0)).set_ 1 (.int .i64 0)).set_ 2 (.string ⟨#[]⟩)).set_ 3 (.string ⟨#[]⟩))
      refine bodyPost_ret (v := .tuple #[.agg #[.int .i64 0, .int .i64 0, .string ⟨#[]⟩, .string ⟨#[]⟩], .int .i64 2]) (by simp [results, Try.results28, go_sem, t0, t1, t2, t3]) rfl ⟨rfl, ?_⟩
      repeat (first | (with_reducible exact HB.out) | (with_reducible exact Below.refl _ _) | (with_reducible apply Below.drew) | (with_reducible apply below_alloc) | ((with_reducible refine Below.alloc ?_ ?_ _); rotate_left; focus (first | (simp; done) | (simp; omega) | omega)) | ((with_reducible refine Below.setCell ?_ ?_ _); rotate_left; focus (first | (simp; done) | (simp; omega) | omega)))
  · have HM := Lib.hid (show false = decide (mayM m) by simp [hm])
    have e2 : askM m n = 8 := by rw [askM, if_neg hm]
    rw [if_neg (by rw [e2]; decide), e2] at hu
    cases hu
    obtain ⟨nt, hnt⟩ : ∃ nt, nt = m.tops.length := ⟨_, rfl⟩
    rw [← hnt] at S ⊢
    clear h hT hnt hm e2
    go_enter Try.func28, Try.ntmps28
    go_wp2_with fail
    refine Calls.mono (refMdlMay_any ?_ HM.out) ?_
    · exact S.out.below (by repeat (first | (with_reducible exact Below.refl _ _) | (with_reducible exact Below.refl _ _) | (with_reducible apply Below.drew) | (with_reducible apply below_alloc) | ((with_reducible refine Below.alloc ?_ ?_ _); rotate_left; focus (first | (simp; done) | (simp; omega) | omega)) | ((with_reducible refine Below.setCell ?_ ?_ _); rotate_left; focus (first | (simp; done) | (simp; omega) | omega))))
    rintro e w1 ⟨rfl, hb⟩
    have HB : Hid (Below w.heap.size w _) := below_step (by repeat (first | (with_reducible exact Below.refl _ _) | (with_reducible exact Below.refl _ _) | (with_reducible apply Below.drew) | (with_reducible apply below_alloc) | ((with_reducible refine Below.alloc ?_ ?_ _); rotate_left; focus (first | (simp; done) | (simp; omega) | omega)) | ((with_reducible refine Below.setCell ?_ ?_ _); rotate_left; focus (first | (simp; done) | (simp; omega) | omega)))) hb
    have R : Blk _ (w.heap.size + 1) _ _ := Blk.step (by repeat (first | ((with_reducible apply Blk.new); focus (first | rfl | (simp; done) | (simp; omega))) | (with_reducible apply Blk.drew) | (with_reducible apply Blk.alloc) | (with_reducible apply Blk.set_) | ((with_reducible apply Blk.far); rotate_left; focus (first | (simp; done) | (simp; omega) | omega)))) hb
    obtain ⟨r0, r1, r2, r3, rz⟩ := cells4 R
    have rl := Blk.lt R
    have HR := Lib.hid R
    clear R
    clear hb
    go_wp2_with fail
    obtain ⟨t0, t1, t2, t3, -⟩ := cells4 ((((HR.out.set_ 0 (.int .i64 0)).set_ 1 (.int .i64 0)).set_ 2 (.string ⟨#[]⟩)).set_ 3 (.string ⟨#[]⟩))
    refine bodyPost_ret (v := .tuple #[.agg #[.int .i64 0, .int .i64 0, .string ⟨#[]⟩, .string ⟨#[]⟩], .int .i64 8]) (by simp [results, Try.results28, go_sem, t0, t1, t2, t3]) rfl ⟨rfl, ?_⟩
    repeat (first | (with_reducible exact HB.out) | (with_reducible exact Below.refl _ _) | (with_reducible apply Below.drew) | (with_reducible apply below_alloc) | ((with_reducible refine Below.alloc ?_ ?_ _); rotate_left; focus (first | (simp; done) | (simp; omega) | omega)) | ((with_reducible refine Below.setCell ?_ ?_ _); rotate_left; focus (first | (simp; done) | (simp; omega) | omega)))
end Go.Proofs.Ytmhjfbapajjiaab
