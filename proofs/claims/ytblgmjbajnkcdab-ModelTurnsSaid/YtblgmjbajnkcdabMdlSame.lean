/-
  model.Same. No condition but that the models read.
-/
import Derived.Test.YtblgmjbajnkcdabMdlRSame
namespace Go.Proofs.Ytblgmjbajnkcdab
open Go.RowKit

set_option maxRecDepth 100000 in
theorem samePl_any {v v' : Value} {t t' : Pl} {w : World} {z : Bool} (h : PlR w v t) (h' : PlR w v' t') (hz0 : z = sameP t t') :
    Calls Try.prog 60 #[v, v'] w fun e w' => e = .returned (.bool z) ∧ Below w.heap.size w w' := by
  obtain ⟨a, cap, rfl, hs⟩ := h
  obtain ⟨a', cap', rfl, hs'⟩ := h'
  have hb0 : ∀ o o' : Obj, Below w.heap.size w ((w.alloc o).alloc o') := fun o o' => ((Below.refl _ _).alloc (Nat.le_refl _) o).alloc (by simp) o'
  have K := fun (o o' : Obj) => equalEnts_any (hs.below entCells_len (hb0 o o')) (hs'.below entCells_len (hb0 o o'))
  have HK := Lib.hid K
  have HB0 := Lib.hid hb0
  obtain ⟨q, hq⟩ : ∃ q, q = sameE t.all t'.all := ⟨_, rfl⟩
  have hz2 : z = (t.base == t'.base && (t.mark == t'.mark && q)) := by rw [hz0, hq]; rfl
  rw [← hq] at HK
  have HZ := Lib.hid hz2
  obtain ⟨base, hbase⟩ : ∃ base, base = t.base := ⟨_, rfl⟩
  obtain ⟨mark, hmark⟩ : ∃ mark, mark = t.mark := ⟨_, rfl⟩
  obtain ⟨base', hbase'⟩ : ∃ base', base' = t'.base := ⟨_, rfl⟩
  obtain ⟨mark', hmark'⟩ : ∃ mark', mark' = t'.mark := ⟨_, rfl⟩
  rw [← hbase, ← hmark, ← hbase', ← hmark'] at HZ ⊢
  clear hz0 hq hz2 hs hs' K hb0 hbase hmark hbase' hmark'
  by_cases h1 : base = base'
  · by_cases h3 : mark = mark'
    · subst h1 h3
      have e1 : (base == base) = true := by simp
      have e3 : (mark == mark) = true := by simp
      go_enter Try.func60, Try.ntmps60
      go_wp2_with fail
      refine (HK.out _ _).mono ?_
      rintro e w2 ⟨rfl, hb⟩
      have HB2 := Lib.hid ((HB0.out _ _).trans (hb.mono (by simp; omega)))
      clear hb
      go_wp2_with fail
      go_ret
      refine ⟨?_, HB2.out⟩
      rw [HZ.out, e1, e3]
      rfl
    · have e3 : (mark == mark') = false := by simpa using h3
      have e1 : (base == base') = true := by simpa using h1
      clear h1 h3
      go_enter Try.func60, Try.ntmps60
      go_wp2_with fail
      go_ret
      refine ⟨?_, HB0.out _ _⟩
      rw [HZ.out, e1, e3]
      rfl
  · have e1 : (base == base') = false := by simpa using h1
    clear h1
    go_enter Try.func60, Try.ntmps60
    go_wp2_with fail
    go_ret
    refine ⟨?_, HB0.out _ _⟩
    rw [HZ.out, e1]
    rfl

set_option maxHeartbeats 4000000 in
set_option maxRecDepth 100000 in
theorem eqPl_any {v v' : Value} {l l' : List Pl} {w : World} {z : Bool} (h : PlsR w v l) (h' : PlsR w v' l') (hz : z = true ↔ l = l') :
    Calls Try.prog 62 #[v, v', .func (.func 60) #[] #[]] w fun e w' => e = .returned (.bool z) ∧ Below w.heap.size w w' := by
  have HZ := Lib.hid hz
  obtain ⟨a, cap, rfl, hcap, hmx, _, hd⟩ := h.shape
  obtain ⟨a', cap', rfl, hcap', hmx', _, hd'⟩ := h'.shape
  have HD := Lib.hid hd
  have HD' := Lib.hid hd'
  obtain ⟨n, hn⟩ : ∃ n, n = l.length := ⟨_, rfl⟩
  obtain ⟨n', hn'⟩ : ∃ n, n = l'.length := ⟨_, rfl⟩
  rw [← hn] at HD hcap ⊢
  rw [← hn'] at HD' hcap' ⊢
  have HN := Lib.hid hn
  have HN' := Lib.hid hn'
  unfold maxLen at hmx hmx'
  have nn0 : (n : Int) ≤ 9223372036854775807 := by omega
  clear hz hd hd' hn hn' h h'
  by_cases hnn : n = n'
  · subst hnn
    have nn : ((n : Int) != (n : Int)) = false := by simp
    go_enter Try.func62, Try.ntmps62
    go_wp2_with fail
    go_loopg [17] n (fun g i wr => ∃ k : Nat, k ≤ n ∧ g = n - k ∧ i = .int .i64 (k : Int) ∧ Hid (∀ j, j < k → l.getD j default = l'.getD j default) ∧ Hid (Below w.heap.size w wr))
    case atStart => exact ⟨0, Nat.zero_le _, rfl, rfl, (fun j hj => absurd hj (Nat.not_lt_zero _)), Below.refl _ _⟩
    case round =>
      obtain ⟨k, hk, rfl, rfl, hall, HB⟩ := hrel
      by_cases hlt : k < n
      · have hk0 : (0 : Int) ≤ (k : Int) := by omega
        have hk1 : (k : Int) < (n : Int) := by omega
        obtain ⟨g, off, ha, hat⟩ := HD.out (by omega)
        subst ha
        obtain ⟨g', off', ha', hat'⟩ := HD'.out (by omega)
        subst ha'
        obtain ⟨ea, ecap, ⟨⟨c0, c1⟩, c2⟩, hTT⟩ := (hat k hlt).keep HB.out
        obtain ⟨ea', ecap', ⟨⟨d0, d1⟩, d2⟩, hTT'⟩ := (hat' k hlt).keep HB.out
        have T := Lib.hid hTT
        have TQ := Lib.hid hTT'
        have hg1 : g < wr.heap.size := World.block_lt_of_cell? wr _ c0
        have hg2 : g' < wr.heap.size := World.block_lt_of_cell? wr _ d0
        obtain ⟨t, ht⟩ : ∃ t, t = l.getD k default := ⟨_, rfl⟩
        obtain ⟨t', ht'⟩ : ∃ t, t = l'.getD k default := ⟨_, rfl⟩
        rw [← ht] at c0 c1 c2 T
        rw [← ht'] at d0 d1 d2 TQ
        have HT := Lib.hid ht
        have HT' := Lib.hid ht'
        obtain ⟨q, hq⟩ : ∃ q, q = sameP t t' := ⟨_, rfl⟩
        have HQS := Lib.hid hq
        clear hat hat' hTT hTT' ht ht' hq
        cases q
        all_goals
          go_wp2_with fail
          refine Calls.mono (samePl_any ?_ ?_ HQS.out) ?_
          · exact T.out.below (by repeat (first | (with_reducible exact Below.refl _ _) | (with_reducible exact Below.refl _ _) | (with_reducible apply Below.drew) | (with_reducible apply below_alloc) | ((with_reducible refine Below.alloc ?_ ?_ _); rotate_left; focus (first | (simp; done) | (simp; omega) | omega)) | ((with_reducible refine Below.setCell ?_ ?_ _); rotate_left; focus (first | (simp; done) | (simp; omega) | omega))))
          · exact TQ.out.below (by repeat (first | (with_reducible exact Below.refl _ _) | (with_reducible exact Below.refl _ _) | (with_reducible apply Below.drew) | (with_reducible apply below_alloc) | ((with_reducible refine Below.alloc ?_ ?_ _); rotate_left; focus (first | (simp; done) | (simp; omega) | omega)) | ((with_reducible refine Below.setCell ?_ ?_ _); rotate_left; focus (first | (simp; done) | (simp; omega) | omega))))
          rintro e w4 ⟨rfl, hb⟩
          replace HB : Hid (Below w.heap.size w _) := below_step (by repeat (first | (with_reducible exact HB.out) | (with_reducible exact Below.refl _ _) | (with_reducible apply Below.drew) | (with_reducible apply below_alloc) | ((with_reducible refine Below.alloc ?_ ?_ _); rotate_left; focus (first | (simp; done) | (simp; omega) | omega)) | ((with_reducible refine Below.setCell ?_ ?_ _); rotate_left; focus (first | (simp; done) | (simp; omega) | omega)))) hb
          clear hb c0 c1 c2 d0 d1 d2
          go_wp2_with fail
        · go_ret
          have e : z = false := by
            cases hzz : z with
            | false => rfl
            | true =>
              have h0 := HQS.out
              rw [HT.out, HT'.out, HZ.out.1 hzz, (sameP_iff _ _).2 rfl] at h0
              cases h0
          exact ⟨by rw [e]; rfl, HB.out⟩
        · go_roundg (n - (k + 1))
          case measure => omega
          case rel =>
            refine ⟨k + 1, by omega, rfl, by go_num, fun j hj => ?_, HB⟩
            by_cases hjk : j < k
            · exact hall.out j hjk
            · obtain rfl : j = k := by omega
              rw [← HT.out, ← HT'.out]
              exact (sameP_iff _ _).1 HQS.out.symm
      · obtain rfl : k = n := by omega
        have hlt' : ¬ (k : Int) < (k : Int) := by omega
        go_wp2_with fail
        go_ret
        have e : z = true := HZ.out.2 (pls_ext (by rw [← HN.out, HN'.out]) (by rw [← HN.out]; exact hall.out))
        exact ⟨by rw [e]; rfl, HB.out⟩
  · have hd : ((n : Int) != (n' : Int)) = true := by simp; omega
    have HNE := Lib.hid hnn
    clear hnn
    go_enter Try.func62, Try.ntmps62
    go_wp2_with fail
    go_ret
    have e : z = false := by
      cases hzz : z with
      | false => rfl
      | true => exact absurd (by rw [HN.out, HN'.out, HZ.out.1 hzz]) HNE.out
    exact ⟨by rw [e]; rfl, Below.refl _ _⟩

theorem coms_str {w : World} {u : Value} {m : List (List Int)} (h : RowsR w u m) : StrR w (.agg #[.slice none 0 0, u]) ⟨[], m⟩ :=
  ⟨_, _, rfl, ⟨[], rfl, ⟨none, 0, rfl, Nat.le_refl _, Nat.zero_le _, fun _ => rfl, fun h => absurd h (Nat.lt_irrefl _)⟩, fun _ h => by cases h⟩, h⟩

open Classical in
set_option maxHeartbeats 4000000 in
set_option maxRecDepth 100000 in
theorem mdlSame_any {v v' : Value} {s s' : Mdl} {w : World} {z : Bool} (h : MdlR w v s) (h' : MdlR w v' s') (hz : z = true ↔ s = s') :
    Calls Try.prog 27 #[v, v'] w fun e w' => e = .returned (.bool z) ∧ Below w.heap.size w w' := by
  have HZ := Lib.hid hz
  obtain ⟨a, cap, b, nc, cc, rfl, hT, hR⟩ := h.shape
  obtain ⟨a', cap', b', nc', cc', rfl, hT', hR'⟩ := h'.shape
  obtain ⟨q, hq⟩ : ∃ q : Bool, q = true ↔ s.tops = s'.tops := ⟨decide (s.tops = s'.tops), by simp⟩
  obtain ⟨d, hd⟩ : ∃ d, d = decide (s.coms = s'.coms) := ⟨_, rfl⟩
  have HQT := Lib.hid hq.1
  have HQF := Lib.hid (show s.tops = s'.tops → q = true from hq.2)
  have HE := Lib.hid (fun W (hW : PlsR W (.slice a s.tops.length cap) s.tops) (hW' : PlsR W (.slice a' s'.tops.length cap') s'.tops) => eqPl_any hW hW' hq)
  have HDD := Lib.hid hd
  have hdi : d = true ↔ (⟨[], s.coms⟩ : Str) = ⟨[], s'.coms⟩ := by rw [hd]; simp
  have M := fun W (hW : RowsR W (.slice b nc cc) s.coms) (hW' : RowsR W (.slice b' nc' cc') s'.coms) => strSame_any (coms_str hW) (coms_str hW') hdi
  have HM := Lib.hid M
  have TT := Lib.hid hT
  have TT' := Lib.hid hT'
  have RR := Lib.hid hR
  have RR' := Lib.hid hR'
  obtain ⟨n, hn⟩ : ∃ n, n = s.tops.length := ⟨_, rfl⟩
  obtain ⟨n', hn'⟩ : ∃ n, n = s'.tops.length := ⟨_, rfl⟩
  rw [← hn] at TT HE ⊢
  rw [← hn'] at TT' HE ⊢
  clear M hd hdi hz hT hT' hR hR' hq hn hn' h h'
  cases q
  · go_enter Try.func27, Try.ntmps27
    go_wp2_with fail
    refine Calls.mono (HE.out _ ?_ ?_) ?_
    · exact TT.out.below (by repeat (first | (with_reducible exact Below.refl _ _) | (with_reducible exact Below.refl _ _) | (with_reducible apply Below.drew) | (with_reducible apply below_alloc) | ((with_reducible refine Below.alloc ?_ ?_ _); rotate_left; focus (first | (simp; done) | (simp; omega) | omega)) | ((with_reducible refine Below.setCell ?_ ?_ _); rotate_left; focus (first | (simp; done) | (simp; omega) | omega))))
    · exact TT'.out.below (by repeat (first | (with_reducible exact Below.refl _ _) | (with_reducible exact Below.refl _ _) | (with_reducible apply Below.drew) | (with_reducible apply below_alloc) | ((with_reducible refine Below.alloc ?_ ?_ _); rotate_left; focus (first | (simp; done) | (simp; omega) | omega)) | ((with_reducible refine Below.setCell ?_ ?_ _); rotate_left; focus (first | (simp; done) | (simp; omega) | omega))))
    rintro e w1 ⟨rfl, hb⟩
    have HB : Hid (Below w.heap.size w _) := below_step (by repeat (first | (with_reducible exact Below.refl _ _) | (with_reducible exact Below.refl _ _) | (with_reducible apply Below.drew) | (with_reducible apply below_alloc) | ((with_reducible refine Below.alloc ?_ ?_ _); rotate_left; focus (first | (simp; done) | (simp; omega) | omega)) | ((with_reducible refine Below.setCell ?_ ?_ _); rotate_left; focus (first | (simp; done) | (simp; omega) | omega)))) hb
    clear hb
    go_wp2_with fail
    go_ret
    have e : z = false := by
      cases hzz : z with
      | false => rfl
      | true => have := HQF.out (mdl_ext.1 (HZ.out.1 hzz)).1; simp at this
    exact ⟨by rw [e]; rfl, HB.out⟩
  · cases d
    all_goals
      go_enter Try.func27, Try.ntmps27
      go_wp2_with fail
      refine Calls.mono (HE.out _ ?_ ?_) ?_
      · exact TT.out.below (by repeat (first | (with_reducible exact Below.refl _ _) | (with_reducible exact Below.refl _ _) | (with_reducible apply Below.drew) | (with_reducible apply below_alloc) | ((with_reducible refine Below.alloc ?_ ?_ _); rotate_left; focus (first | (simp; done) | (simp; omega) | omega)) | ((with_reducible refine Below.setCell ?_ ?_ _); rotate_left; focus (first | (simp; done) | (simp; omega) | omega))))
      · exact TT'.out.below (by repeat (first | (with_reducible exact Below.refl _ _) | (with_reducible exact Below.refl _ _) | (with_reducible apply Below.drew) | (with_reducible apply below_alloc) | ((with_reducible refine Below.alloc ?_ ?_ _); rotate_left; focus (first | (simp; done) | (simp; omega) | omega)) | ((with_reducible refine Below.setCell ?_ ?_ _); rotate_left; focus (first | (simp; done) | (simp; omega) | omega))))
      rintro e w1 ⟨rfl, hb⟩
      have HB : Hid (Below w.heap.size w _) := below_step (by repeat (first | (with_reducible exact Below.refl _ _) | (with_reducible exact Below.refl _ _) | (with_reducible apply Below.drew) | (with_reducible apply below_alloc) | ((with_reducible refine Below.alloc ?_ ?_ _); rotate_left; focus (first | (simp; done) | (simp; omega) | omega)) | ((with_reducible refine Below.setCell ?_ ?_ _); rotate_left; focus (first | (simp; done) | (simp; omega) | omega)))) hb
      have P : Blk _ (w.heap.size) _ _ := Blk.step (by repeat (first | ((with_reducible apply Blk.new); focus (first | rfl | (simp; done) | (simp; omega))) | (with_reducible apply Blk.drew) | (with_reducible apply Blk.alloc) | (with_reducible apply Blk.set_) | ((with_reducible apply Blk.far); rotate_left; focus (first | (simp; done) | (simp; omega) | omega)))) hb
      obtain ⟨p0, p1, pz⟩ := cells2 P
      have pl := Blk.lt P
      have HP := Lib.hid P
      clear P
      have Q2 : Blk _ (w.heap.size + 1) _ _ := Blk.step (by repeat (first | ((with_reducible apply Blk.new); focus (first | rfl | (simp; done) | (simp; omega))) | (with_reducible apply Blk.drew) | (with_reducible apply Blk.alloc) | (with_reducible apply Blk.set_) | ((with_reducible apply Blk.far); rotate_left; focus (first | (simp; done) | (simp; omega) | omega)))) hb
      obtain ⟨q20, q21, q2z⟩ := cells2 Q2
      have q2l := Blk.lt Q2
      have HQ2 := Lib.hid Q2
      clear Q2
      clear hb
      go_wp2_with fail
      refine Calls.mono (HM.out _ ?_ ?_) ?_
      · exact RR.out.below HB.out
      · exact RR'.out.below HB.out
      rintro e w2 ⟨rfl, hb⟩
      replace HB : Hid (Below w.heap.size w _) := below_step (by repeat (first | (with_reducible exact HB.out) | (with_reducible exact Below.refl _ _) | (with_reducible apply Below.drew) | (with_reducible apply below_alloc) | ((with_reducible refine Below.alloc ?_ ?_ _); rotate_left; focus (first | (simp; done) | (simp; omega) | omega)) | ((with_reducible refine Below.setCell ?_ ?_ _); rotate_left; focus (first | (simp; done) | (simp; omega) | omega)))) hb
      clear hb
      go_wp2_with fail
      go_ret
    · have e : z = false := by
        cases hzz : z with
        | false => rfl
        | true => exact absurd (mdl_ext.1 (HZ.out.1 hzz)).2 (of_decide_eq_false HDD.out.symm)
      exact ⟨by rw [e]; rfl, HB.out⟩
    · have e : z = true := HZ.out.2 (mdl_ext.2 ⟨HQT.out (by trivial), of_decide_eq_true HDD.out.symm⟩)
      exact ⟨by rw [e]; rfl, HB.out⟩
end Go.Proofs.Ytblgmjbajnkcdab
