/-
  The document's in, End, Committed, Fetch of models.
-/
import Derived.Test.YtblgmjbajnkcdabMdlMay
import Derived.Test.YtblgmjbajnkcdabMdlFetch
namespace Go.Proofs.Ytblgmjbajnkcdab
open Go.RowKit

theorem refIn_any (n b : Int) {z : Bool} {w : World} (hz : z = true ↔ 0 ≤ n ∧ n < b) : Calls Try.prog 46 #[.int .i64 n, .int .i64 b] w fun e w' => e = .returned (.bool z) ∧ w' = w := by
  have hc : (n < 0 ∧ z = false) ∨ (¬ n < 0 ∧ ¬ n < b ∧ z = false) ∨ (¬ n < 0 ∧ n < b ∧ z = true) := by
    cases z
    · have : ¬ (0 ≤ n ∧ n < b) := fun h => by have := hz.2 h; cases this
      simp
      omega
    · have := hz.1 rfl
      simp
      omega
  clear hz
  rcases hc with ⟨h1, rfl⟩ | ⟨h1, h2, rfl⟩ | ⟨h1, h2, rfl⟩
  all_goals
    go_enter Try.func46, Try.ntmps46
    go_wp2_with fail
    go_ret
    exact ⟨by first | rfl | (simp; omega), rfl⟩

set_option maxHeartbeats 4000000 in
set_option maxRecDepth 100000 in
theorem refMdlEnd_any {v : Value} {m : Mdl} {w : World} {x y : Int} (n : Int) (h : MdlR w v m) (hu : endM m n = (x, y)) :
    Calls Try.prog 15 #[v, .int .i64 n] w fun e w' => e = .returned (.tuple #[.int .i64 x, .int .i64 y]) ∧ Below w.heap.size w w' := by
  have S := Lib.hid h
  obtain ⟨a, cap, b, nc, cc, rfl, hT, -⟩ := h.shape
  by_cases hm : mayM m
  · have HM := Lib.hid (show true = decide (mayM m) by simp [hm])
    have h4 := hm.1.1
    by_cases hr : 0 ≤ n ∧ n < 4
    · rw [endM, if_pos (askM_zero.2 ⟨hm, hr.1, hr.2⟩)] at hu
      obtain ⟨h0, h1⟩ := hr
      obtain ⟨⟨-, hcap, hmx⟩, g, off, rfl, hat⟩ := MdlR.pl hT (i := n) h0 (by omega)
      rw [show m.tops.getD n.toNat default = plN m n from rfl] at hat
      obtain ⟨an, han⟩ : ∃ an, an = (plN m n).all.length := ⟨_, rfl⟩
      rw [← han] at hu
      obtain ⟨ea, ecap, ⟨⟨d0, -⟩, -⟩, -⟩ := hat
      rw [← han] at d0
      cases hu
      have D0 := Lib.hid d0
      obtain ⟨nt, hnt⟩ : ∃ nt, nt = m.tops.length := ⟨_, rfl⟩
      rw [← hnt] at S hcap h4 ⊢
      subst h4
      unfold maxLen at hmx
      clear h hT hnt hm han d0
      go_enter Try.func15, Try.ntmps15
      go_wp2_with fail
      refine Calls.mono (refMdlMay_any ?_ HM.out) ?_
      · exact S.out.below (by repeat (first | (with_reducible exact Below.refl _ _) | (with_reducible exact Below.refl _ _) | (with_reducible apply Below.drew) | (with_reducible apply below_alloc) | ((with_reducible refine Below.alloc ?_ ?_ _); rotate_left; focus (first | (simp; done) | (simp; omega) | omega)) | ((with_reducible refine Below.setCell ?_ ?_ _); rotate_left; focus (first | (simp; done) | (simp; omega) | omega))))
      rintro e w1 ⟨rfl, hb⟩
      have HB : Hid (Below w.heap.size w _) := below_step (by repeat (first | (with_reducible exact Below.refl _ _) | (with_reducible exact Below.refl _ _) | (with_reducible apply Below.drew) | (with_reducible apply below_alloc) | ((with_reducible refine Below.alloc ?_ ?_ _); rotate_left; focus (first | (simp; done) | (simp; omega) | omega)) | ((with_reducible refine Below.setCell ?_ ?_ _); rotate_left; focus (first | (simp; done) | (simp; omega) | omega)))) hb
      have P : Blk _ (w.heap.size) _ _ := Blk.step (by repeat (first | ((with_reducible apply Blk.new); focus (first | rfl | (simp; done) | (simp; omega))) | (with_reducible apply Blk.drew) | (with_reducible apply Blk.alloc) | (with_reducible apply Blk.set_) | ((with_reducible apply Blk.far); rotate_left; focus (first | (simp; done) | (simp; omega) | omega)))) hb
      obtain ⟨p0, p1, pz⟩ := cells2 P
      have pl := Blk.lt P
      have HP := Lib.hid P
      clear P
      have d0 := keep HB.out D0.out
      have hg : g < w1.heap.size := World.block_lt_of_cell? w1 _ d0
      clear hb
      go_wp2_with fail
      refine Calls.mono (refIn_any (n) (4) (z := true) (by simp; omega)) ?_
      rintro e w9 ⟨rfl, rfl⟩
      go_wp2_with fail
      go_ret2
      refine ⟨rfl, ?_⟩
      repeat (first | (with_reducible exact HB.out) | (with_reducible exact Below.refl _ _) | (with_reducible apply Below.drew) | (with_reducible apply below_alloc) | ((with_reducible refine Below.alloc ?_ ?_ _); rotate_left; focus (first | (simp; done) | (simp; omega) | omega)) | ((with_reducible refine Below.setCell ?_ ?_ _); rotate_left; focus (first | (simp; done) | (simp; omega) | omega)))
    · have e2 : askM m n = 2 := by rw [askM, if_pos hm, if_neg hr]
      rw [endM, if_neg (by rw [e2]; decide), e2] at hu
      cases hu
      obtain ⟨nt, hnt⟩ : ∃ nt, nt = m.tops.length := ⟨_, rfl⟩
      rw [← hnt] at S ⊢
      have HR := Lib.hid hr
      clear h hT hnt hm h4 e2 hr
      go_enter Try.func15, Try.ntmps15
      go_wp2_with fail
      refine Calls.mono (refMdlMay_any ?_ HM.out) ?_
      · exact S.out.below (by repeat (first | (with_reducible exact Below.refl _ _) | (with_reducible exact Below.refl _ _) | (with_reducible apply Below.drew) | (with_reducible apply below_alloc) | ((with_reducible refine Below.alloc ?_ ?_ _); rotate_left; focus (first | (simp; done) | (simp; omega) | omega)) | ((with_reducible refine Below.setCell ?_ ?_ _); rotate_left; focus (first | (simp; done) | (simp; omega) | omega))))
      rintro e w1 ⟨rfl, hb⟩
      have HB : Hid (Below w.heap.size w _) := below_step (by repeat (first | (with_reducible exact Below.refl _ _) | (with_reducible exact Below.refl _ _) | (with_reducible apply Below.drew) | (with_reducible apply below_alloc) | ((with_reducible refine Below.alloc ?_ ?_ _); rotate_left; focus (first | (simp; done) | (simp; omega) | omega)) | ((with_reducible refine Below.setCell ?_ ?_ _); rotate_left; focus (first | (simp; done) | (simp; omega) | omega)))) hb
      
      clear hb
      go_wp2_with fail
      refine Calls.mono (refIn_any (n) (4) (z := false) (by simpa using HR.out)) ?_
      rintro e w9 ⟨rfl, rfl⟩
      go_wp2_with fail
      go_ret2
      refine ⟨rfl, ?_⟩
      repeat (first | (with_reducible exact HB.out) | (with_reducible exact Below.refl _ _) | (with_reducible apply Below.drew) | (with_reducible apply below_alloc) | ((with_reducible refine Below.alloc ?_ ?_ _); rotate_left; focus (first | (simp; done) | (simp; omega) | omega)) | ((with_reducible refine Below.setCell ?_ ?_ _); rotate_left; focus (first | (simp; done) | (simp; omega) | omega)))
  · have HM := Lib.hid (show false = decide (mayM m) by simp [hm])
    have e2 : askM m n = 8 := by rw [askM, if_neg hm]
    rw [endM, if_neg (by rw [e2]; decide), e2] at hu
    cases hu
    obtain ⟨nt, hnt⟩ : ∃ nt, nt = m.tops.length := ⟨_, rfl⟩
    rw [← hnt] at S ⊢
    clear h hT hnt hm e2
    go_enter Try.func15, Try.ntmps15
    go_wp2_with fail
    refine Calls.mono (refMdlMay_any ?_ HM.out) ?_
    · exact S.out.below (by repeat (first | (with_reducible exact Below.refl _ _) | (with_reducible exact Below.refl _ _) | (with_reducible apply Below.drew) | (with_reducible apply below_alloc) | ((with_reducible refine Below.alloc ?_ ?_ _); rotate_left; focus (first | (simp; done) | (simp; omega) | omega)) | ((with_reducible refine Below.setCell ?_ ?_ _); rotate_left; focus (first | (simp; done) | (simp; omega) | omega))))
    rintro e w1 ⟨rfl, hb⟩
    have HB : Hid (Below w.heap.size w _) := below_step (by repeat (first | (with_reducible exact Below.refl _ _) | (with_reducible exact Below.refl _ _) | (with_reducible apply Below.drew) | (with_reducible apply below_alloc) | ((with_reducible refine Below.alloc ?_ ?_ _); rotate_left; focus (first | (simp; done) | (simp; omega) | omega)) | ((with_reducible refine Below.setCell ?_ ?_ _); rotate_left; focus (first | (simp; done) | (simp; omega) | omega)))) hb
    
    clear hb
    go_wp2_with fail
    go_ret2
    refine ⟨rfl, ?_⟩
    repeat (first | (with_reducible exact HB.out) | (with_reducible exact Below.refl _ _) | (with_reducible apply Below.drew) | (with_reducible apply below_alloc) | ((with_reducible refine Below.alloc ?_ ?_ _); rotate_left; focus (first | (simp; done) | (simp; omega) | omega)) | ((with_reducible refine Below.setCell ?_ ?_ _); rotate_left; focus (first | (simp; done) | (simp; omega) | omega)))

set_option maxHeartbeats 4000000 in
set_option maxRecDepth 100000 in
theorem refMdlFar_any {v : Value} {m : Mdl} {w : World} {x y : Int} (n k : Int) (h : MdlR w v m) (hu : farM m n k = (x, y)) :
    Calls Try.prog 13 #[v, .int .i64 n, .int .i64 k] w fun e w' => e = .returned (.tuple #[.int .i64 x, .int .i64 y]) ∧ Below w.heap.size w w' := by
  have S := Lib.hid h
  obtain ⟨a, cap, b, nc, cc, rfl, -, hR⟩ := h.shape
  obtain ⟨nt, hnt⟩ : ∃ nt, nt = m.tops.length := ⟨_, rfl⟩
  rw [← hnt] at S ⊢
  rw [farM] at hu
  by_cases hm : mayM m
  · rw [if_pos hm] at hu
    have HM := Lib.hid (show true = decide (mayM m) by simp [hm])
    by_cases hr : 0 ≤ n ∧ n < 4
    · by_cases hk : 0 ≤ k ∧ k < 8
      · rw [if_pos ⟨hr, hk⟩] at hu
        obtain ⟨h0, h1⟩ := hr
        obtain ⟨hk0, hk1⟩ := hk
        obtain ⟨rb, roff, rcap, gb, goff, gcap, hv, d1, d2⟩ := rows_cell hR hm.2.1 h0 h1 hk0 hk1
        cases hv
        obtain ⟨z, hz⟩ : ∃ z, z = getC m.coms n k := ⟨_, rfl⟩
        rw [← hz] at hu d2
        cases hu
        obtain ⟨i, rfl⟩ : ∃ i : Nat, n = (i : Int) := ⟨n.toNat, by omega⟩
        obtain ⟨j, rfl⟩ : ∃ j : Nat, k = (j : Int) := ⟨k.toNat, by omega⟩
        rw [Int.toNat_natCast] at d1 d2
        have hr0 : 4 ≤ cc ∧ cc ≤ maxLen := by
          have := hR.at_.1
          omega
        have D1 := Lib.hid d1
        have D2 := Lib.hid d2
        clear h hR hnt hm hz d1 d2
        go_enter Try.func13, Try.ntmps13
        go_wp2_with fail
        refine Calls.mono (refMdlMay_any ?_ HM.out) ?_
        · exact S.out.below (by repeat (first | (with_reducible exact Below.refl _ _) | (with_reducible exact Below.refl _ _) | (with_reducible apply Below.drew) | (with_reducible apply below_alloc) | ((with_reducible refine Below.alloc ?_ ?_ _); rotate_left; focus (first | (simp; done) | (simp; omega) | omega)) | ((with_reducible refine Below.setCell ?_ ?_ _); rotate_left; focus (first | (simp; done) | (simp; omega) | omega))))
        rintro e w1 ⟨rfl, hb⟩
        have HB : Hid (Below w.heap.size w _) := below_step (by repeat (first | (with_reducible exact Below.refl _ _) | (with_reducible exact Below.refl _ _) | (with_reducible apply Below.drew) | (with_reducible apply below_alloc) | ((with_reducible refine Below.alloc ?_ ?_ _); rotate_left; focus (first | (simp; done) | (simp; omega) | omega)) | ((with_reducible refine Below.setCell ?_ ?_ _); rotate_left; focus (first | (simp; done) | (simp; omega) | omega)))) hb
        have P : Blk _ (w.heap.size) _ _ := Blk.step (by repeat (first | ((with_reducible apply Blk.new); focus (first | rfl | (simp; done) | (simp; omega))) | (with_reducible apply Blk.drew) | (with_reducible apply Blk.alloc) | (with_reducible apply Blk.set_) | ((with_reducible apply Blk.far); rotate_left; focus (first | (simp; done) | (simp; omega) | omega)))) hb
        obtain ⟨p0, p1, pz⟩ := cells2 P
        have pl := Blk.lt P
        have HP := Lib.hid P
        clear P
        have d1 := keep HB.out D1.out
        have d2 := keep HB.out D2.out
        have hg1 : rb < w1.heap.size := World.block_lt_of_cell? w1 _ d1
        have hg2 : gb < w1.heap.size := World.block_lt_of_cell? w1 _ d2
        clear hb
        go_wp2_with fail
        refine Calls.mono (refIn_any ((i : Int)) (4) (z := true) (by simp; omega)) ?_
        rintro e w9 ⟨rfl, rfl⟩
        go_wp2_with fail
        refine Calls.mono (refIn_any ((j : Int)) (8) (z := true) (by simp; omega)) ?_
        rintro e w9 ⟨rfl, rfl⟩
        go_wp2_with fail
        go_ret2
        refine ⟨rfl, ?_⟩
        repeat (first | (with_reducible exact HB.out) | (with_reducible exact Below.refl _ _) | (with_reducible apply Below.drew) | (with_reducible apply below_alloc) | ((with_reducible refine Below.alloc ?_ ?_ _); rotate_left; focus (first | (simp; done) | (simp; omega) | omega)) | ((with_reducible refine Below.setCell ?_ ?_ _); rotate_left; focus (first | (simp; done) | (simp; omega) | omega)))
      · rw [if_neg (fun h => hk h.2)] at hu
        cases hu
        have HK := Lib.hid hk
        have HR := Lib.hid hr
        clear h hR hnt hm hk hr
        go_enter Try.func13, Try.ntmps13
        go_wp2_with fail
        refine Calls.mono (refMdlMay_any ?_ HM.out) ?_
        · exact S.out.below (by repeat (first | (with_reducible exact Below.refl _ _) | (with_reducible exact Below.refl _ _) | (with_reducible apply Below.drew) | (with_reducible apply below_alloc) | ((with_reducible refine Below.alloc ?_ ?_ _); rotate_left; focus (first | (simp; done) | (simp; omega) | omega)) | ((with_reducible refine Below.setCell ?_ ?_ _); rotate_left; focus (first | (simp; done) | (simp; omega) | omega))))
        rintro e w1 ⟨rfl, hb⟩
        have HB : Hid (Below w.heap.size w _) := below_step (by repeat (first | (with_reducible exact Below.refl _ _) | (with_reducible exact Below.refl _ _) | (with_reducible apply Below.drew) | (with_reducible apply below_alloc) | ((with_reducible refine Below.alloc ?_ ?_ _); rotate_left; focus (first | (simp; done) | (simp; omega) | omega)) | ((with_reducible refine Below.setCell ?_ ?_ _); rotate_left; focus (first | (simp; done) | (simp; omega) | omega)))) hb
        
        clear hb
        go_wp2_with fail
        refine Calls.mono (refIn_any (n) (4) (z := true) (by simpa using HR.out)) ?_
        rintro e w9 ⟨rfl, rfl⟩
        go_wp2_with fail
        refine Calls.mono (refIn_any (k) (8) (z := false) (by simpa using HK.out)) ?_
        rintro e w9 ⟨rfl, rfl⟩
        go_wp2_with fail
        go_ret2
        refine ⟨rfl, ?_⟩
        repeat (first | (with_reducible exact HB.out) | (with_reducible exact Below.refl _ _) | (with_reducible apply Below.drew) | (with_reducible apply below_alloc) | ((with_reducible refine Below.alloc ?_ ?_ _); rotate_left; focus (first | (simp; done) | (simp; omega) | omega)) | ((with_reducible refine Below.setCell ?_ ?_ _); rotate_left; focus (first | (simp; done) | (simp; omega) | omega)))
    · rw [if_neg (fun h => hr h.1)] at hu
      cases hu
      have HR := Lib.hid hr
      clear h hR hnt hm hr
      go_enter Try.func13, Try.ntmps13
      go_wp2_with fail
      refine Calls.mono (refMdlMay_any ?_ HM.out) ?_
      · exact S.out.below (by repeat (first | (with_reducible exact Below.refl _ _) | (with_reducible exact Below.refl _ _) | (with_reducible apply Below.drew) | (with_reducible apply below_alloc) | ((with_reducible refine Below.alloc ?_ ?_ _); rotate_left; focus (first | (simp; done) | (simp; omega) | omega)) | ((with_reducible refine Below.setCell ?_ ?_ _); rotate_left; focus (first | (simp; done) | (simp; omega) | omega))))
      rintro e w1 ⟨rfl, hb⟩
      have HB : Hid (Below w.heap.size w _) := below_step (by repeat (first | (with_reducible exact Below.refl _ _) | (with_reducible exact Below.refl _ _) | (with_reducible apply Below.drew) | (with_reducible apply below_alloc) | ((with_reducible refine Below.alloc ?_ ?_ _); rotate_left; focus (first | (simp; done) | (simp; omega) | omega)) | ((with_reducible refine Below.setCell ?_ ?_ _); rotate_left; focus (first | (simp; done) | (simp; omega) | omega)))) hb
      
      clear hb
      go_wp2_with fail
      refine Calls.mono (refIn_any (n) (4) (z := false) (by simpa using HR.out)) ?_
      rintro e w9 ⟨rfl, rfl⟩
      go_wp2_with fail
      go_ret2
      refine ⟨rfl, ?_⟩
      repeat (first | (with_reducible exact HB.out) | (with_reducible exact Below.refl _ _) | (with_reducible apply Below.drew) | (with_reducible apply below_alloc) | ((with_reducible refine Below.alloc ?_ ?_ _); rotate_left; focus (first | (simp; done) | (simp; omega) | omega)) | ((with_reducible refine Below.setCell ?_ ?_ _); rotate_left; focus (first | (simp; done) | (simp; omega) | omega)))
  · rw [if_neg hm] at hu
    cases hu
    have HM := Lib.hid (show false = decide (mayM m) by simp [hm])
    clear h hR hnt hm
    go_enter Try.func13, Try.ntmps13
    go_wp2_with fail
    refine Calls.mono (refMdlMay_any ?_ HM.out) ?_
    · exact S.out.below (by repeat (first | (with_reducible exact Below.refl _ _) | (with_reducible exact Below.refl _ _) | (with_reducible apply Below.drew) | (with_reducible apply below_alloc) | ((with_reducible refine Below.alloc ?_ ?_ _); rotate_left; focus (first | (simp; done) | (simp; omega) | omega)) | ((with_reducible refine Below.setCell ?_ ?_ _); rotate_left; focus (first | (simp; done) | (simp; omega) | omega))))
    rintro e w1 ⟨rfl, hb⟩
    have HB : Hid (Below w.heap.size w _) := below_step (by repeat (first | (with_reducible exact Below.refl _ _) | (with_reducible exact Below.refl _ _) | (with_reducible apply Below.drew) | (with_reducible apply below_alloc) | ((with_reducible refine Below.alloc ?_ ?_ _); rotate_left; focus (first | (simp; done) | (simp; omega) | omega)) | ((with_reducible refine Below.setCell ?_ ?_ _); rotate_left; focus (first | (simp; done) | (simp; omega) | omega)))) hb
    
    clear hb
    go_wp2_with fail
    go_ret2
    refine ⟨rfl, ?_⟩
    repeat (first | (with_reducible exact HB.out) | (with_reducible exact Below.refl _ _) | (with_reducible apply Below.drew) | (with_reducible apply below_alloc) | ((with_reducible refine Below.alloc ?_ ?_ _); rotate_left; focus (first | (simp; done) | (simp; omega) | omega)) | ((with_reducible refine Below.setCell ?_ ?_ _); rotate_left; focus (first | (simp; done) | (simp; omega) | omega)))
end Go.Proofs.Ytblgmjbajnkcdab
