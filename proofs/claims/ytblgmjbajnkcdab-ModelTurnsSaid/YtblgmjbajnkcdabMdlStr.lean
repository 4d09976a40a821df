/-
  model.streamed: the topics that a model stands for.
-/
import Derived.Test.YtblgmjbajnkcdabMdlTop
namespace Go.Proofs.Ytblgmjbajnkcdab
open Go.RowKit

set_option maxHeartbeats 8000000 in
set_option maxRecDepth 100000 in
theorem streamed_any {v : Value} {m : Mdl} {w : World} (h : MdlR w v m) (hs : ∀ p ∈ m.tops, shapedP p) (hf : m.tops.length ≤ 1000000 ∧ few m.coms) : Calls Try.prog 53 #[v] w (StrEnd (streamM m) w) := by
  obtain ⟨i0, hi, hz0, hz1, hz2⟩ := info_parts info_top
  obtain ⟨hf1, hf3⟩ := hf
  have HS := Lib.hid hs
  have HF3 := Lib.hid hf3
  obtain ⟨a, cap, b, nc, cc, rfl, hT, hR⟩ := h.shape
  obtain ⟨aa, ccap, hv, hcap, hmx, _, hd⟩ := hT.shape
  cases hv
  have HD := Lib.hid hd
  have RR := Lib.hid hR
  obtain ⟨n, hn⟩ : ∃ n, n = m.tops.length := ⟨_, rfl⟩
  rw [← hn] at HD hcap hf1 ⊢
  have HN := Lib.hid hn
  have nn0 : (n : Int) ≤ 1000000 := by omega
  have HFS := Lib.hid (show fewS (streamM m) by
    refine ⟨by rw [streamM, List.length_map, ← hn]; exact hf1, fun t ht => ?_, hf3⟩
    obtain ⟨p, hp, rfl⟩ := List.mem_map.1 ht
    have h1 := (hs p hp).2.1
    have h2 : (entP p).length ≤ p.all.length := Nat.le_trans (fromE_len _ _) (keepF_sub _ _).length_le
    show (entP p).length ≤ 1000000
    omega)
  clear hs hf3 hT hR hd hn h hmx
  go_enter Try.func53, Try.ntmps53
  go_wp2_with fail
  go_loopg [12] n (fun g i wr => ∃ (k : Nat) (al : Option Addr) (capl : Nat), k ≤ n ∧ g = n - k ∧ i = .int .i64 (k : Int) ∧ Hid (OwnT wr (w.heap.size + 3) (.slice al k capl) ((m.tops.map topM).take k)) ∧ Hid (Below w.heap.size w wr) ∧
    Hid (Blk wr (w.heap.size + 1) 58 [.slice none 0 0, .slice none 0 0]) ∧ Hid (Blk wr (w.heap.size + 2) 58 [.slice al k capl, .slice b nc cc]))
  case atStart =>
    refine ⟨0, none, 0, Nat.zero_le _, rfl, rfl, OwnT.nil _ _, ?_, ?_, ?_⟩
    · show Below _ _ _
      repeat (first | (with_reducible exact Below.refl _ _) | (with_reducible exact Below.refl _ _) | (with_reducible apply Below.drew) | (with_reducible apply below_alloc) | ((with_reducible refine Below.alloc ?_ ?_ _); rotate_left; focus (first | (simp; done) | (simp; omega) | omega)) | ((with_reducible refine Below.setCell ?_ ?_ _); rotate_left; focus (first | (simp; done) | (simp; omega) | omega)))
    · show Blk _ _ _ _
      repeat (first | (with_reducible exact Blk.new (by simp)) | ((with_reducible apply Blk.new); focus (first | rfl | (simp; done) | (simp; omega))) | (with_reducible apply Blk.drew) | (with_reducible apply Blk.alloc) | (with_reducible apply Blk.set_) | ((with_reducible apply Blk.far); rotate_left; focus (first | (simp; done) | (simp; omega) | omega)))
    · show Blk _ _ _ _
      exact Blk.new (by simp)
  case round =>
    obtain ⟨k, al, capl, hk, rfl, rfl, OT, HB, HR, HQ⟩ := hrel
    obtain ⟨q0, q1, qz⟩ := cells2 HQ.out
    obtain ⟨r0, r1, rz⟩ := cells2 HR.out
    have ql := HQ.out.lt
    have rl := HR.out.lt
    have hws : w.heap.size < wr.heap.size := by omega
    by_cases hlt : k < n
    · have hk0 : (0 : Int) ≤ (k : Int) := by omega
      have hk1 : (k : Int) < (n : Int) := by omega
      obtain ⟨g, off, ha, hat⟩ := HD.out (by omega)
      subst ha
      obtain ⟨ea, ecap, ⟨⟨c0, c1⟩, c2⟩, hTT⟩ := (hat k hlt).keep HB.out
      have T := Lib.hid hTT
      have hg1 : g < wr.heap.size := World.block_lt_of_cell? wr _ c0
      obtain ⟨y, hy⟩ : ∃ y, y = m.tops.getD k default := ⟨_, rfl⟩
      rw [← hy] at c0 c1 c2 T
      have hkl : k < m.tops.length := by rw [← HN.out]; exact hlt
      have HSY := Lib.hid (show shapedP y by rw [hy, getD_lt hkl]; exact HS.out _ (List.getElem_mem hkl))
      obtain ⟨x, hx⟩ : ∃ x, x = topM y := ⟨_, rfl⟩
      have HTK := Lib.hid (show (m.tops.map topM).take (k + 1) = (m.tops.map topM).take k ++ [x] by
        rw [hx, hy, List.take_succ_eq_append_getElem (by simpa using hkl), getD_lt hkl]
        simp)
      have hlk : ((m.tops.map topM).take k).length = k := by rw [List.length_take, List.length_map]; omega
      have HLK := Lib.hid hlk
      have KT : Hid (∀ (W : World) {v : Value}, PlR W v y → Calls Try.prog 87 #[v] W (TwinEnd17 x W)) := Lib.hid (fun W v hW => by rw [hx]; exact mdlTopic_any hW HSY.out)
      obtain ⟨pl, hpl, hrow, hent⟩ := OT.out
      rw [hlk] at hrow
      have HROW := Lib.hid hrow
      have HPL := Lib.hid hpl
      have HENT := Lib.hid hent
      obtain ⟨an, hna⟩ : ∃ an, an = y.all.length := ⟨_, rfl⟩
      rw [← hna] at c0 T
      obtain ⟨yb, hyb⟩ : ∃ yb, yb = y.base := ⟨_, rfl⟩
      obtain ⟨ym, hym⟩ : ∃ ym, ym = y.mark := ⟨_, rfl⟩
      rw [← hyb] at c1 T
      rw [← hym] at c2 T
      clear hat hTT hx hy hlk hpl hrow hent hna hyb hym
      go_wp2_with fail
      go_region_law (first | (go_simp; go_at_call 87; refine (KT.out _ (T.out.below (by repeat (first | (with_reducible exact Below.refl _ _) | (with_reducible exact Below.refl _ _) | (with_reducible apply Below.drew) | (with_reducible apply below_alloc) | ((with_reducible refine Below.alloc ?_ ?_ _); rotate_left; focus (first | (simp; done) | (simp; omega) | omega)) | ((with_reducible refine Below.setCell ?_ ?_ _); rotate_left; focus (first | (simp; done) | (simp; omega) | omega)))))).mono ?_; rintro e w4 ⟨a4, c4, rfl, o4, hb⟩; have HQ4 := Lib.hid (Blk.step (Blk.drew (Blk.alloc HQ.out _)) hb); have HX4 := Lib.hid (Blk.step (Blk.drew (Blk.new (w := wr) (t := 84) (cs := [.slice ea an ecap, .int .i64 yb, .int .i64 ym]) rfl)) hb); have HW4 : Hid (Below wr.heap.size wr w4) := below_step (by repeat (first | (with_reducible exact Below.refl _ _) | (with_reducible exact Below.refl _ _) | (with_reducible apply Below.drew) | (with_reducible apply below_alloc) | ((with_reducible refine Below.alloc ?_ ?_ _); rotate_left; focus (first | (simp; done) | (simp; omega) | omega)) | ((with_reducible refine Below.setCell ?_ ?_ _); rotate_left; focus (first | (simp; done) | (simp; omega) | omega)))) hb; have O4 := Lib.hid (own_base (B' := w.heap.size + 3) o4 (by simp; omega)); have hz4 : wr.heap.size < w4.heap.size := HX4.out.lt; have hy4 : w.heap.size + 2 < w4.heap.size := HQ4.out.lt; obtain ⟨m0, m1, mz⟩ := cells2 HQ4.out; obtain ⟨n0, n1, n2, nz⟩ := cells3 HX4.out; clear hb o4) | (refine step_append_lies _ rfl _ _ 56 rfl (w.heap.size + 3) 70 i0 _ 4 48 Try.underlying56 hi hz0 hz1 hz2 rfl (by decide) _ k _ rfl ((ownsRow_keep HROW.out HW4.out).alloc _) ⟨w4.heap.size, 0, none⟩ 1 1 (topCells (.slice a4 x.ents.length c4, x)) rfl rfl (news_top _ x rfl) (topCells_one _ _ _ x) (by decide) (by unfold maxLen; omega) (by omega) (by simp; omega) _ rfl ?_; intro g5 cap5 w5 hown hgrow hat5 hlt5; have HQ5 := Lib.hid (Blk.grown (HQ4.out.alloc _) hgrow (fun e => by have := (HROW.out.lt _ e).1; omega)); obtain ⟨m0, m1, mz⟩ := cells2 HQ5.out))
      all_goals
        have OT5 : Hid (OwnT w5 (w.heap.size + 3) (.slice (some ⟨g5, 0, none⟩) (k + 1) cap5) ((m.tops.map topM).take (k + 1))) := by
          rw [HTK.out]
          exact OwnT.snoc2 HPL.out ((ownsRow_keep HROW.out HW4.out).alloc _) (fun p hp => own_below (own_below (HENT.out p hp) HW4.out) ((Below.refl _ _).alloc (Nat.le_refl _) _)) (own_below O4.out ((Below.refl _ _).alloc (Nat.le_refl _) _)) hgrow hown HLK.out.symm
        have HB5 : Hid (Below w.heap.size w w5) := Below.grown ((Below.step HB.out HW4.out (by omega)).alloc (by omega) _) hgrow (by simp; omega) (fun j hj => by have := (HROW.out.lt j hj).1; omega)
        have HR5 := Lib.hid (Blk.grown ((HR.out.step HW4.out).alloc _) hgrow (fun e => by have := (HROW.out.lt _ e).1; omega))
        have hl5 : w.heap.size + 2 < w5.heap.size := HQ5.out.lt
        clear hown hgrow
        go_wp2_with fail
        go_roundg (n - (k + 1))
        case measure => omega
        case rel =>
         refine ⟨k + 1, some ⟨g5, 0, none⟩, cap5, by omega, rfl, by go_num, ?_, ?_, ?_, ?_⟩
         · show OwnT _ _ _ _
           exact OT5.out.far (by omega)
         · show Below _ _ _
           exact HB5.out.setCell (p := ⟨w.heap.size + 2, 0, none⟩) (by show w.heap.size ≤ w.heap.size + 2; omega) _
         · show Blk _ _ _ _
           exact HR5.out.far (by omega) _
         · show Blk _ _ _ _
           exact HQ5.out.set_ 0 _
    · obtain rfl : k = n := by omega
      have hlt' : ¬ (k : Int) < (k : Int) := by omega
      have e : (m.tops.map topM).take k = m.tops.map topM := by rw [HN.out, ← List.length_map (f := topM)]; exact List.take_length
      have SS : Hid (StrR wr (.agg #[.slice al k capl, .slice b nc cc]) (streamM m)) := Lib.hid ⟨_, _, rfl, (by have h := OT.out.reads; rwa [e] at h), RR.out.below HB.out⟩
      clear e OT
      go_wp2_with fail
      refine Calls.mono (strTwin_any SS.out HFS.out) ?_
      rintro e w6 ⟨ta, tc, rfl, os, hb⟩
      obtain ⟨a6, cap6, b6, nc6, cc6, ev, -, -⟩ := os.reads.shape
      cases ev
      clear r0 r1 rz q0 q1 qz
      replace HB : Hid (Below w.heap.size w _) := below_step (by repeat (first | (with_reducible exact HB.out) | (with_reducible exact Below.refl _ _) | (with_reducible apply Below.drew) | (with_reducible apply below_alloc) | ((with_reducible refine Below.alloc ?_ ?_ _); rotate_left; focus (first | (simp; done) | (simp; omega) | omega)) | ((with_reducible refine Below.setCell ?_ ?_ _); rotate_left; focus (first | (simp; done) | (simp; omega) | omega)))) hb
      have HR6 := Lib.hid (HR.out.step hb)
      have OS : Hid (OwnS w6 (w.heap.size + 3) _ (streamM m)) := Lib.hid (os.le (by omega))
      have rl6 := HR6.out.lt
      clear hb os
      obtain ⟨r0, r1, rz⟩ := cells2 HR6.out
      go_wp2_with fail
      obtain ⟨t0, t1, -⟩ := cells2 ((HR6.out.set_ 0 (.slice a6 (streamM m).tops.length cap6)).set_ 1 (.slice b6 nc6 cc6))
      refine bodyPost_ret (v := .agg #[.slice a6 (streamM m).tops.length cap6, .slice b6 nc6 cc6]) (by simp [results, Try.results53, go_sem, t0, t1]) rfl ⟨_, _, rfl, ?_, ?_⟩
      · exact ((OS.out.le (by omega)).blk HR6.out (by decide) (by decide) (by decide) (by decide)).blk (HR6.out.set_ 0 _) (by decide) (by decide) (by decide) (by decide)
      · exact (HB.out.setCell (p := ⟨w.heap.size + 1, 0, none⟩) (by simp) _).setCell (p := ⟨w.heap.size + 1, 1, none⟩) (by simp) _
end Go.Proofs.Ytblgmjbajnkcdab
