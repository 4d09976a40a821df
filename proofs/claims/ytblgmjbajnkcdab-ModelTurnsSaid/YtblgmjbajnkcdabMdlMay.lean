/-
  The document's May and Check of models. No condition but that the models read.
-/
import Derived.Test.YtblgmjbajnkcdabMdlShp
import Derived.Test.YtblgmjbajnkcdabBunK
import Derived.Deep.LoopGhost
namespace Go.Proofs.Ytblgmjbajnkcdab
open Go.RowKit

/-- What a round of the document's look holds of topic i. -/
def goodM (s : Mdl) (i : Nat) : Prop := (shapedP (s.tops.getD i default) ∧ (entP (s.tops.getD i default)).length ≤ 200) ∧ ∀ k, k < 8 → ((s.coms.getD i []).getD k 0) ≤ ((s.tops.getD i default).all.length : Int)
theorem mayM_good {s : Mdl} (h4 : s.tops.length = 4) (hok : okC s.coms = true) : mayM s ↔ ∀ i, i < 4 → goodM s i := by
  constructor
  · intro h i hi
    refine ⟨?_, h.2.2 i hi⟩
    rw [getD_lt (by omega)]
    exact h.1.2 _ (List.getElem_mem _)
  · intro h
    refine ⟨⟨h4, fun t ht => ?_⟩, hok, fun i hi => (h i hi).2⟩
    obtain ⟨i, hi, rfl⟩ := List.getElem_of_mem ht
    have := (h i (by omega)).1
    rwa [getD_lt hi] at this

set_option maxHeartbeats 4000000 in
set_option maxRecDepth 100000 in
theorem refMdlMay_any {v : Value} {s : Mdl} {w : World} {z : Bool} (h : MdlR w v s) (hz : z = decide (mayM s)) :
    Calls Try.prog 45 #[v] w fun e w' => e = .returned (.bool z) ∧ Below w.heap.size w w' := by
  have HZ := Lib.hid hz
  obtain ⟨a, cap, b, nc, cc, rfl, hT, hR⟩ := h.shape
  have TT := Lib.hid hT
  have RR := Lib.hid hR
  obtain ⟨n, hn⟩ : ∃ n, n = s.tops.length := ⟨_, rfl⟩
  rw [← hn] at TT ⊢
  have HN := Lib.hid hn
  clear hz hT hR hn h
  by_cases h4 : n = 4
  · subst h4
    obtain ⟨d, hd⟩ : ∃ d, d = okC s.coms := ⟨_, rfl⟩
    have HD := Lib.hid hd
    have M := fun W (hW : RowsR W (.slice b nc cc) s.coms) => may_any hW
    rw [← hd] at M
    have HM := Lib.hid M
    clear M hd
    cases d
    · go_enter Try.func45, Try.ntmps45
      go_wp2_with fail
      refine Calls.mono (HM.out _ ?_) ?_
      · exact RR.out.below (by repeat (first | (with_reducible exact Below.refl _ _) | (with_reducible exact Below.refl _ _) | (with_reducible apply Below.drew) | (with_reducible apply below_alloc) | ((with_reducible refine Below.alloc ?_ ?_ _); rotate_left; focus (first | (simp; done) | (simp; omega) | omega)) | ((with_reducible refine Below.setCell ?_ ?_ _); rotate_left; focus (first | (simp; done) | (simp; omega) | omega))))
      rintro e w1 ⟨rfl, rfl⟩
      go_wp2_with fail
      go_ret
      have e : z = false := by rw [HZ.out]; exact decide_eq_false (fun hm => by have := hm.2.1; rw [← HD.out] at this; cases this)
      refine ⟨by rw [e]; rfl, ?_⟩
      repeat (first | (with_reducible exact Below.refl _ _) | (with_reducible exact Below.refl _ _) | (with_reducible apply Below.drew) | (with_reducible apply below_alloc) | ((with_reducible refine Below.alloc ?_ ?_ _); rotate_left; focus (first | (simp; done) | (simp; omega) | omega)) | ((with_reducible refine Below.setCell ?_ ?_ _); rotate_left; focus (first | (simp; done) | (simp; omega) | omega)))
    · have h4c : s.coms.length = 4 := (okC_spec HD.out.symm).1
      obtain ⟨⟨hnc, hcap2, hmx2⟩, hrows⟩ := RR.out.at_
      obtain rfl : nc = 4 := by omega
      obtain ⟨gr, ro, hbr, hrow⟩ := hrows (by omega)
      obtain ⟨_, hcapt, hmxt, _, htop⟩ : ∃ x : Unit, 4 ≤ cap ∧ cap ≤ maxLen ∧ True ∧ ∃ g off, a = some ⟨g, off, none⟩ ∧ ∀ i, i < 4 → PlAt w g (off + i * 3) (s.tops.getD i default) := by
        obtain ⟨a', cap', hv, h1, h2, _, h3⟩ := TT.out.shape
        rw [← HN.out] at hv h1 h3
        cases hv
        exact ⟨(), h1, h2, trivial, h3 (by omega)⟩
      obtain ⟨gt, to, hbt, htop⟩ := htop
      subst hbr hbt
      have HROW := Lib.hid hrow
      have HTOP := Lib.hid htop
      unfold maxLen at hmx2 hmxt
      have HIFF := Lib.hid (mayM_good HN.out.symm HD.out.symm)
      have HR8 := Lib.hid (show ∀ i, i < 4 → (s.coms.getD i []).length = 8 from fun i hi => ((okC_spec HD.out.symm).2 _ (row_mem (by omega))).1)
      clear hrows hrow htop hnc h4c
      go_enter Try.func45, Try.ntmps45
      go_wp2_with fail
      refine Calls.mono (HM.out _ ?_) ?_
      · exact RR.out.below (by repeat (first | (with_reducible exact Below.refl _ _) | (with_reducible exact Below.refl _ _) | (with_reducible apply Below.drew) | (with_reducible apply below_alloc) | ((with_reducible refine Below.alloc ?_ ?_ _); rotate_left; focus (first | (simp; done) | (simp; omega) | omega)) | ((with_reducible refine Below.setCell ?_ ?_ _); rotate_left; focus (first | (simp; done) | (simp; omega) | omega))))
      rintro e w1 ⟨rfl, rfl⟩
      go_wp2_with fail
      go_loopg [3] 4 (fun g i wr => ∃ k : Nat, k ≤ 4 ∧ g = 4 - k ∧ i = .int .i64 (k : Int) ∧ Hid (∀ j, j < k → goodM s j) ∧ Hid (Below w.heap.size w wr) ∧ Hid (Blk wr w.heap.size 25 [.slice (some ⟨gt, to, none⟩) 4 cap, .slice (some ⟨gr, ro, none⟩) 4 cc]))
      case atStart =>
        refine ⟨0, by omega, rfl, rfl, (fun j hj => absurd hj (Nat.not_lt_zero _)), ?_, ?_⟩
        · show Below _ _ _
          repeat (first | (with_reducible exact Below.refl _ _) | (with_reducible exact Below.refl _ _) | (with_reducible apply Below.drew) | (with_reducible apply below_alloc) | ((with_reducible refine Below.alloc ?_ ?_ _); rotate_left; focus (first | (simp; done) | (simp; omega) | omega)) | ((with_reducible refine Below.setCell ?_ ?_ _); rotate_left; focus (first | (simp; done) | (simp; omega) | omega)))
        · show Blk _ _ _ _
          exact Blk.new rfl
      case round =>
        obtain ⟨k, hk, rfl, rfl, hall, HB, HP⟩ := hrel
        obtain ⟨wo, rfl⟩ : ∃ wo : World, wo = wr := ⟨_, rfl⟩
        obtain ⟨p0, p1, pz⟩ := cells2 HP.out
        have pl := HP.out.lt
        by_cases hlt : k < 4
        · have hk0 : (0 : Int) ≤ (k : Int) := by omega
          have hk1 : (k : Int) < 4 := by omega
          obtain ⟨ea, ecap, ⟨⟨c0, c1⟩, c2⟩, hTT⟩ := (HTOP.out k hlt).keep HB.out
          have T := Lib.hid hTT
          obtain ⟨t, ht⟩ : ∃ t, t = s.tops.getD k default := ⟨_, rfl⟩
          have HT := Lib.hid ht
          rw [← ht] at c0 c1 c2 T
          obtain ⟨q, hq⟩ : ∃ q, q = decide (shapedP t ∧ (entP t).length ≤ 200) := ⟨_, rfl⟩
          have HQ := Lib.hid hq
          have MM := fun W (hW : PlR W (.agg #[.slice ea t.all.length ecap, .int .i64 t.base, .int .i64 t.mark]) t) => refPlain_any hW
          rw [← hq] at MM
          have HMM := Lib.hid MM
          clear hTT ht hq MM
          cases q
          · go_wp2_with fail
            refine Calls.mono (HMM.out _ ?_) ?_
            · exact T.out.below (by repeat (first | (with_reducible exact Below.refl _ _) | (with_reducible exact Below.refl _ _) | (with_reducible apply Below.drew) | (with_reducible apply below_alloc) | ((with_reducible refine Below.alloc ?_ ?_ _); rotate_left; focus (first | (simp; done) | (simp; omega) | omega)) | ((with_reducible refine Below.setCell ?_ ?_ _); rotate_left; focus (first | (simp; done) | (simp; omega) | omega))))
            rintro e w2 ⟨rfl, hb⟩
            replace HB : Hid (Below w.heap.size w _) := below_step (by repeat (first | (with_reducible exact HB.out) | (with_reducible exact Below.refl _ _) | (with_reducible apply Below.drew) | (with_reducible apply below_alloc) | ((with_reducible refine Below.alloc ?_ ?_ _); rotate_left; focus (first | (simp; done) | (simp; omega) | omega)) | ((with_reducible refine Below.setCell ?_ ?_ _); rotate_left; focus (first | (simp; done) | (simp; omega) | omega)))) hb
            clear hb
            go_wp2_with fail
            go_ret
            have e : z = false := by rw [HZ.out]; exact decide_eq_false (fun hm => by have := (HIFF.out.1 hm k hlt).1; rw [← HT.out] at this; exact of_decide_eq_false HQ.out.symm this)
            exact ⟨by rw [e]; rfl, HB.out⟩
          · go_wp2_with fail
            refine Calls.mono (HMM.out _ ?_) ?_
            · exact T.out.below (by repeat (first | (with_reducible exact Below.refl _ _) | (with_reducible exact Below.refl _ _) | (with_reducible apply Below.drew) | (with_reducible apply below_alloc) | ((with_reducible refine Below.alloc ?_ ?_ _); rotate_left; focus (first | (simp; done) | (simp; omega) | omega)) | ((with_reducible refine Below.setCell ?_ ?_ _); rotate_left; focus (first | (simp; done) | (simp; omega) | omega))))
            rintro e w2 ⟨rfl, hb⟩
            replace HB : Hid (Below w.heap.size w _) := below_step (by repeat (first | (with_reducible exact HB.out) | (with_reducible exact Below.refl _ _) | (with_reducible apply Below.drew) | (with_reducible apply below_alloc) | ((with_reducible refine Below.alloc ?_ ?_ _); rotate_left; focus (first | (simp; done) | (simp; omega) | omega)) | ((with_reducible refine Below.setCell ?_ ?_ _); rotate_left; focus (first | (simp; done) | (simp; omega) | omega)))) hb
            clear p0 p1 pz pl
            replace HP : Hid (Blk _ (w.heap.size) _ _) := Blk.step (by repeat (first | (with_reducible exact HP.out) | ((with_reducible apply Blk.new); focus (first | rfl | (simp; done) | (simp; omega))) | (with_reducible apply Blk.drew) | (with_reducible apply Blk.alloc) | (with_reducible apply Blk.set_) | ((with_reducible apply Blk.far); rotate_left; focus (first | (simp; done) | (simp; omega) | omega)))) hb
            obtain ⟨p0, p1, pz⟩ := cells2 HP.out
            have pl := Blk.lt HP.out
            clear hb c0 c1 c2
            go_wp2_with fail
            go_loopg [4] 8 (fun g j wi => ∃ q : Nat, q ≤ 8 ∧ g = 8 - q ∧ j = .int .i64 (q : Int) ∧ Hid (∀ j, j < q → ((s.coms.getD k []).getD j 0) ≤ (t.all.length : Int)) ∧ Hid (Below w.heap.size w wi) ∧ Hid (Blk wi w.heap.size 25 [.slice (some ⟨gt, to, none⟩) 4 cap, .slice (some ⟨gr, ro, none⟩) 4 cc]))
            case atStart => exact ⟨0, by omega, rfl, rfl, (fun j hj => absurd hj (Nat.not_lt_zero _)), HB, HP⟩
            case round =>
              clear HB HP p0 p1 pz pl
              obtain ⟨q, hq, rfl, rfl, hin, HB, HP⟩ := hrel
              obtain ⟨p0, p1, pz⟩ := cells2 HP.out
              have pl := HP.out.lt
              by_cases hql : q < 8
              · have hq0 : (0 : Int) ≤ (q : Int) := by omega
                have hq1 : (q : Int) < 8 := by omega
                obtain ⟨ra, rcap, r0, hrs⟩ := (HROW.out k hlt).keep HB.out
                obtain ⟨ea, ecap, ⟨⟨c1, _⟩, _⟩, _⟩ := (HTOP.out k hlt).keep HB.out
                rw [← HT.out] at c1
                rw [HR8.out k hlt] at r0 hrs
                obtain ⟨ra', rcap', hv, hrc, _, _, hrd⟩ := hrs.one (c := fun n => .int .i64 n) 0
                rw [HR8.out k hlt] at hrd hv hrc
                cases hv
                obtain ⟨gi, io, rfl, hrd2⟩ := hrd (by omega)
                have d1 := hrd2 q hql
                obtain ⟨x, hx⟩ : ∃ x, x = (s.coms.getD k []).getD q 0 := ⟨_, rfl⟩
                rw [← hx] at d1
                obtain ⟨nx, hnx⟩ : ∃ nx, nx = t.all.length := ⟨_, rfl⟩
                rw [← hnx] at c1
                have HX := Lib.hid hx
                have HNX := Lib.hid hnx
                have hgt : gt < wr.heap.size := World.block_lt_of_cell? wr _ c1
                have hgr : gr < wr.heap.size := World.block_lt_of_cell? wr _ r0
                have hgi : gi < wr.heap.size := World.block_lt_of_cell? wr _ d1
                have hrc' : (8 : Int) ≤ (rcap : Int) := by omega
                clear hrs hrd hrd2 hx hnx hrc
                by_cases hgt2 : (nx : Int) < x
                · have HGT := Lib.hid hgt2
                  go_wp2_with fail
                  refine wp_region_below (by kernel_rfl) (by kernel_rfl) ?_
                  repeat
                    with_reducible refine wpQuiet_step (fun K hK => ?_)
                    first
                      | refine quiet_not (by rfl) (hK _ ?_)
                      | refine quiet_any (by rfl) ?_
                        apply Exists.intro
                        refine ⟨fun wq hq => ?_, hK _ ?_⟩
                        · obtain ⟨qc, _⟩ := bcell hq.out
                          go_simp
                          first
                            | done
                            | (with_reducible rfl)
                            | (fail)
                    clear hK K
                    simp only [Act.put, List.setIfInBounds_toArray, List.set_cons_zero, List.set_cons_succ]
                  refine wpQuiet_nil ?_
                  rintro w4 hb
                  replace HB : Hid (Below w.heap.size w _) := below_step (by repeat (first | (with_reducible exact HB.out) | (with_reducible exact Below.refl _ _) | (with_reducible apply Below.drew) | (with_reducible apply below_alloc) | ((with_reducible refine Below.alloc ?_ ?_ _); rotate_left; focus (first | (simp; done) | (simp; omega) | omega)) | ((with_reducible refine Below.setCell ?_ ?_ _); rotate_left; focus (first | (simp; done) | (simp; omega) | omega)))) hb
                  clear hb
                  go_wp2_with fail
                  go_ret
                  have e : z = false := by rw [HZ.out]; exact decide_eq_false (fun hm => by have h0 := (HIFF.out.1 hm k hlt).2 q hql; rw [← HX.out, ← HT.out, ← HNX.out] at h0; have := HGT.out; omega)
                  exact ⟨by rw [e]; rfl, HB.out⟩
                · have HGT := Lib.hid hgt2
                  go_wp2_with fail
                  refine wp_region_below (by kernel_rfl) (by kernel_rfl) ?_
                  repeat
                    with_reducible refine wpQuiet_step (fun K hK => ?_)
                    first
                      | refine quiet_not (by rfl) (hK _ ?_)
                      | refine quiet_any (by rfl) ?_
                        apply Exists.intro
                        refine ⟨fun wq hq => ?_, hK _ ?_⟩
                        · obtain ⟨qc, _⟩ := bcell hq.out
                          go_simp
                          first
                            | done
                            | (with_reducible rfl)
                            | (fail)
                    clear hK K
                    simp only [Act.put, List.setIfInBounds_toArray, List.set_cons_zero, List.set_cons_succ]
                  refine wpQuiet_nil ?_
                  rintro w4 hb
                  replace HB : Hid (Below w.heap.size w _) := below_step (by repeat (first | (with_reducible exact HB.out) | (with_reducible exact Below.refl _ _) | (with_reducible apply Below.drew) | (with_reducible apply below_alloc) | ((with_reducible refine Below.alloc ?_ ?_ _); rotate_left; focus (first | (simp; done) | (simp; omega) | omega)) | ((with_reducible refine Below.setCell ?_ ?_ _); rotate_left; focus (first | (simp; done) | (simp; omega) | omega)))) hb
                  clear p0 p1 pz pl
                  replace HP : Hid (Blk _ (w.heap.size) _ _) := Blk.step (by repeat (first | (with_reducible exact HP.out) | ((with_reducible apply Blk.new); focus (first | rfl | (simp; done) | (simp; omega))) | (with_reducible apply Blk.drew) | (with_reducible apply Blk.alloc) | (with_reducible apply Blk.set_) | ((with_reducible apply Blk.far); rotate_left; focus (first | (simp; done) | (simp; omega) | omega)))) hb
                  obtain ⟨p0, p1, pz⟩ := cells2 HP.out
                  have pl := Blk.lt HP.out
                  clear hb
                  go_wp2_with fail
                  go_roundg (8 - (q + 1))
                  case measure => omega
                  case rel =>
                    refine ⟨q + 1, by omega, rfl, by go_num, fun j hj => ?_, HB, HP⟩
                    by_cases hjk : j < q
                    · exact hin.out j hjk
                    · obtain rfl : j = q := by omega
                      rw [← HX.out, ← HNX.out]
                      have := HGT.out
                      omega
              · obtain rfl : q = 8 := by omega
                go_wp2_with fail
                go_roundg (4 - (k + 1))
                case measure => omega
                case rel =>
                  refine ⟨k + 1, by omega, rfl, by go_num, fun j hj => ?_, HB, HP⟩
                  by_cases hjk : j < k
                  · exact hall.out j hjk
                  · obtain rfl : j = k := by omega
                    refine ⟨?_, ?_⟩
                    · rw [← HT.out]; exact of_decide_eq_true HQ.out.symm
                    · rw [← HT.out]; exact hin.out
        · obtain rfl : k = 4 := by omega
          go_wp2_with fail
          go_ret
          have e : z = true := by rw [HZ.out]; exact decide_eq_true (HIFF.out.2 hall.out)
          exact ⟨by rw [e]; rfl, HB.out⟩
  · have hd : ((n : Int) != 4) = true := by simp; omega
    have hm : ¬ mayM s := fun hm => h4 (by rw [HN.out]; exact hm.1.1)
    have HM := Lib.hid hm
    clear hm h4
    go_enter Try.func45, Try.ntmps45
    go_wp2_with fail
    go_ret
    have e : z = false := by rw [HZ.out]; exact decide_eq_false HM.out
    refine ⟨by rw [e]; rfl, ?_⟩
    repeat (first | (with_reducible exact Below.refl _ _) | (with_reducible exact Below.refl _ _) | (with_reducible apply Below.drew) | (with_reducible apply below_alloc) | ((with_reducible refine Below.alloc ?_ ?_ _); rotate_left; focus (first | (simp; done) | (simp; omega) | omega)) | ((with_reducible refine Below.setCell ?_ ?_ _); rotate_left; focus (first | (simp; done) | (simp; omega) | omega)))

theorem refMdlCheck_any {v : Value} {s : Mdl} {w : World} (h : MdlR w v s) (c : Int) (hc : c = if mayM s then 0 else 8) : Calls Try.prog 26 #[v] w fun e w' => e = .returned (.int .i64 c) ∧ Below w.heap.size w w' := by
  have S := Lib.hid h
  obtain ⟨a, cap, b, nc, cc, rfl, -, -⟩ := h.shape
  clear h
  by_cases hm : mayM s
  · rw [if_pos hm] at hc
    subst hc
    have HZ := Lib.hid (show true = decide (mayM s) by simp [hm])
    clear hm
    go_enter Try.func26, Try.ntmps26
    go_wp2_with fail
    refine Calls.mono (refMdlMay_any ?_ HZ.out) ?_
    · exact S.out.below (by repeat (first | (with_reducible exact Below.refl _ _) | (with_reducible exact Below.refl _ _) | (with_reducible apply Below.drew) | (with_reducible apply below_alloc) | ((with_reducible refine Below.alloc ?_ ?_ _); rotate_left; focus (first | (simp; done) | (simp; omega) | omega)) | ((with_reducible refine Below.setCell ?_ ?_ _); rotate_left; focus (first | (simp; done) | (simp; omega) | omega))))
    rintro e w1 ⟨rfl, hb⟩
    have HB : Hid (Below w.heap.size w _) := below_step (by repeat (first | (with_reducible exact Below.refl _ _) | (with_reducible exact Below.refl _ _) | (with_reducible apply Below.drew) | (with_reducible apply below_alloc) | ((with_reducible refine Below.alloc ?_ ?_ _); rotate_left; focus (first | (simp; done) | (simp; omega) | omega)) | ((with_reducible refine Below.setCell ?_ ?_ _); rotate_left; focus (first | (simp; done) | (simp; omega) | omega)))) hb
    clear hb
    go_wp2_with fail
    go_ret
    exact ⟨rfl, HB.out⟩
  · rw [if_neg hm] at hc
    subst hc
    have HZ := Lib.hid (show false = decide (mayM s) by simp [hm])
    clear hm
    go_enter Try.func26, Try.ntmps26
    go_wp2_with fail
    refine Calls.mono (refMdlMay_any ?_ HZ.out) ?_
    · exact S.out.below (by repeat (first | (with_reducible exact Below.refl _ _) | (with_reducible exact Below.refl _ _) | (with_reducible apply Below.drew) | (with_reducible apply below_alloc) | ((with_reducible refine Below.alloc ?_ ?_ _); rotate_left; focus (first | (simp; done) | (simp; omega) | omega)) | ((with_reducible refine Below.setCell ?_ ?_ _); rotate_left; focus (first | (simp; done) | (simp; omega) | omega))))
    rintro e w1 ⟨rfl, hb⟩
    have HB : Hid (Below w.heap.size w _) := below_step (by repeat (first | (with_reducible exact Below.refl _ _) | (with_reducible exact Below.refl _ _) | (with_reducible apply Below.drew) | (with_reducible apply below_alloc) | ((with_reducible refine Below.alloc ?_ ?_ _); rotate_left; focus (first | (simp; done) | (simp; omega) | omega)) | ((with_reducible refine Below.setCell ?_ ?_ _); rotate_left; focus (first | (simp; done) | (simp; omega) | omega)))) hb
    clear hb
    go_wp2_with fail
    go_ret
    exact ⟨rfl, HB.out⟩
end Go.Proofs.Ytblgmjbajnkcdab
