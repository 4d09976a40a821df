/-
  stream.Same and the document's. No condition but that the topics read.
-/
import Derived.Test.YtblgmjbajnkcdaaStrP
import Derived.Test.YtblgmjbajnkcdaaBunK
import Derived.Test.YtblgmjbajnkcdaaBunD
import Derived.Deep.LoopGhost
namespace Go.Proofs.Ytblgmjbajnkcdaa
open Go.RowKit

theorem tops_ext {l l' : List Top} (h : l.length = l'.length) (hall : ∀ j, j < l.length → l.getD j default = l'.getD j default) : l = l' := list_eq_of default h hall
theorem str_ext {s s' : Str} : s = s' ↔ s.tops = s'.tops ∧ s.coms = s'.coms := by
  cases s; cases s'; simp

set_option maxHeartbeats 4000000 in
set_option maxRecDepth 100000 in
theorem refStrSame_any {v v' : Value} {s s' : Str} {w : World} {z : Bool} (h : StrR w v s) (h' : StrR w v' s') (hz : z = true ↔ s = s') :
    Calls Try.prog 16 #[v, v'] w fun e w' => e = .returned (.bool z) ∧ Below w.heap.size w w' := by
  have HZ := Lib.hid hz
  obtain ⟨a, cap, b, nc, cc, rfl, hT, hR⟩ := h.shape
  obtain ⟨a', cap', b', nc', cc', rfl, hT', hR'⟩ := h'.shape
  obtain ⟨aa, ccap, hv, hcap, hmx, _, hd⟩ := hT.shape
  cases hv
  obtain ⟨aa', ccap', hv', hcap', hmx', _, hd'⟩ := hT'.shape
  cases hv'
  have HD := Lib.hid hd
  have HD' := Lib.hid hd'
  have RR := Lib.hid hR
  have RR' := Lib.hid hR'
  obtain ⟨n, hn⟩ : ∃ n, n = s.tops.length := ⟨_, rfl⟩
  obtain ⟨n', hn'⟩ : ∃ n, n = s'.tops.length := ⟨_, rfl⟩
  rw [← hn] at HD hcap ⊢
  rw [← hn'] at HD' hcap' ⊢
  have HN := Lib.hid hn
  have HN' := Lib.hid hn'
  unfold maxLen at hmx hmx'
  have nn0 : (n : Int) ≤ 9223372036854775807 := by omega
  clear hz hT hR hT' hR' hd hd' hn hn' h h'
  by_cases hnn : n = n'
  · subst hnn
    have nn : ((n : Int) != (n : Int)) = false := by simp
    obtain ⟨d, hd⟩ : ∃ d, d = decide (s.coms = s'.coms) := ⟨_, rfl⟩
    have HDD := Lib.hid hd
    have M := fun W (hW : RowsR W (.slice b nc cc) s.coms) (hW' : RowsR W (.slice b' nc' cc') s'.coms) => refSameC_any hW hW'
    rw [← hd] at M
    have HM := Lib.hid M
    clear M hd
    cases d
    · go_enter Try.func16, Try.ntmps16
      go_wp2_with fail
      refine Calls.mono (HM.out _ ?_ ?_) ?_
      · exact RR.out.below (by repeat (first | (with_reducible exact Below.refl _ _) | (with_reducible exact Below.refl _ _) | (with_reducible apply Below.drew) | (with_reducible apply below_alloc) | ((with_reducible refine Below.alloc ?_ ?_ _); rotate_left; focus (first | (simp; done) | (simp; omega) | omega)) | ((with_reducible refine Below.setCell ?_ ?_ _); rotate_left; focus (first | (simp; done) | (simp; omega) | omega))))
      · exact RR'.out.below (by repeat (first | (with_reducible exact Below.refl _ _) | (with_reducible exact Below.refl _ _) | (with_reducible apply Below.drew) | (with_reducible apply below_alloc) | ((with_reducible refine Below.alloc ?_ ?_ _); rotate_left; focus (first | (simp; done) | (simp; omega) | omega)) | ((with_reducible refine Below.setCell ?_ ?_ _); rotate_left; focus (first | (simp; done) | (simp; omega) | omega))))
      rintro e w1 ⟨rfl, hb⟩
      have HB : Hid (Below w.heap.size w _) := below_step (by repeat (first | (with_reducible exact Below.refl _ _) | (with_reducible exact Below.refl _ _) | (with_reducible apply Below.drew) | (with_reducible apply below_alloc) | ((with_reducible refine Below.alloc ?_ ?_ _); rotate_left; focus (first | (simp; done) | (simp; omega) | omega)) | ((with_reducible refine Below.setCell ?_ ?_ _); rotate_left; focus (first | (simp; done) | (simp; omega) | omega)))) hb
      clear hb
      go_wp2_with fail
      go_ret
      have e : z = false := by
        cases hzz : z with
        | false => rfl
        | true => exact absurd (str_ext.1 (HZ.out.1 hzz)).2 (of_decide_eq_false HDD.out.symm)
      exact ⟨by rw [e]; rfl, HB.out⟩
    · go_enter Try.func16, Try.ntmps16
      go_wp2_with fail
      refine Calls.mono (HM.out _ ?_ ?_) ?_
      · exact RR.out.below (by repeat (first | (with_reducible exact Below.refl _ _) | (with_reducible exact Below.refl _ _) | (with_reducible apply Below.drew) | (with_reducible apply below_alloc) | ((with_reducible refine Below.alloc ?_ ?_ _); rotate_left; focus (first | (simp; done) | (simp; omega) | omega)) | ((with_reducible refine Below.setCell ?_ ?_ _); rotate_left; focus (first | (simp; done) | (simp; omega) | omega))))
      · exact RR'.out.below (by repeat (first | (with_reducible exact Below.refl _ _) | (with_reducible exact Below.refl _ _) | (with_reducible apply Below.drew) | (with_reducible apply below_alloc) | ((with_reducible refine Below.alloc ?_ ?_ _); rotate_left; focus (first | (simp; done) | (simp; omega) | omega)) | ((with_reducible refine Below.setCell ?_ ?_ _); rotate_left; focus (first | (simp; done) | (simp; omega) | omega))))
      rintro e w1 ⟨rfl, hb⟩
      have HB : Hid (Below w.heap.size w _) := below_step (by repeat (first | (with_reducible exact Below.refl _ _) | (with_reducible exact Below.refl _ _) | (with_reducible apply Below.drew) | (with_reducible apply below_alloc) | ((with_reducible refine Below.alloc ?_ ?_ _); rotate_left; focus (first | (simp; done) | (simp; omega) | omega)) | ((with_reducible refine Below.setCell ?_ ?_ _); rotate_left; focus (first | (simp; done) | (simp; omega) | omega)))) hb
      have P : Blk _ (w.heap.size) _ _ := Blk.step (by repeat (first | ((with_reducible apply Blk.new); focus (first | rfl | (simp; done) | (simp; omega))) | (with_reducible apply Blk.drew) | (with_reducible apply Blk.alloc) | (with_reducible apply Blk.set_) | ((with_reducible apply Blk.far); rotate_left; focus (first | (simp; done) | (simp; omega) | omega)))) hb
      obtain ⟨p0, p1, pz⟩ := cells2 P
      have pl := Blk.lt P
      have HP := Lib.hid P
      clear P
      have Q : Blk _ (w.heap.size + 1) _ _ := Blk.step (by repeat (first | ((with_reducible apply Blk.new); focus (first | rfl | (simp; done) | (simp; omega))) | (with_reducible apply Blk.drew) | (with_reducible apply Blk.alloc) | (with_reducible apply Blk.set_) | ((with_reducible apply Blk.far); rotate_left; focus (first | (simp; done) | (simp; omega) | omega)))) hb
      obtain ⟨q0, q1, qz⟩ := cells2 Q
      have ql := Blk.lt Q
      have HQ := Lib.hid Q
      clear Q
      clear hb
      go_wp2_with fail
      go_loopg [5] n (fun g i wr => ∃ k : Nat, k ≤ n ∧ g = n - k ∧ i = .int .i64 (k : Int) ∧ Hid (∀ j, j < k → s.tops.getD j default = s'.tops.getD j default) ∧ Hid (Below w.heap.size w wr) ∧
        Hid (Blk wr w.heap.size 25 [.slice a n cap, .slice b nc cc]) ∧ Hid (Blk wr (w.heap.size + 1) 25 [.slice a' n cap', .slice b' nc' cc']))
      case atStart => exact ⟨0, Nat.zero_le _, rfl, rfl, (fun j hj => absurd hj (Nat.not_lt_zero _)), HB, HP, HQ⟩
      case round =>
        clear HB HP HQ p0 p1 pz pl q0 q1 qz ql
        obtain ⟨k, hk, rfl, rfl, hall, HB, HP, HQ⟩ := hrel
        obtain ⟨p0, p1, pz⟩ := cells2 HP.out
        obtain ⟨q0, q1, qz⟩ := cells2 HQ.out
        have pl := HP.out.lt
        have ql := HQ.out.lt
        by_cases hlt : k < n
        · have hk0 : (0 : Int) ≤ (k : Int) := by omega
          have hk1 : (k : Int) < (n : Int) := by omega
          obtain ⟨g, off, ha, hat⟩ := HD.out (by omega)
          subst ha
          obtain ⟨g', off', ha', hat'⟩ := HD'.out (by omega)
          subst ha'
          obtain ⟨ea, ecap, ⟨⟨⟨c0, c1⟩, c2⟩, c3⟩, hTT⟩ := (hat k hlt).keep HB.out
          obtain ⟨ea', ecap', ⟨⟨⟨d0, d1⟩, d2⟩, d3⟩, hTT'⟩ := (hat' k hlt).keep HB.out
          have T := Lib.hid hTT
          have TQ := Lib.hid hTT'
          have hg1 : g < wr.heap.size := World.block_lt_of_cell? wr _ c0
          have hg2 : g' < wr.heap.size := World.block_lt_of_cell? wr _ d0
          obtain ⟨t, ht⟩ : ∃ t, t = s.tops.getD k default := ⟨_, rfl⟩
          obtain ⟨t', ht'⟩ : ∃ t, t = s'.tops.getD k default := ⟨_, rfl⟩
          rw [← ht] at c0 c1 c2 c3 T
          rw [← ht'] at d0 d1 d2 d3 TQ
          have HT := Lib.hid ht
          have HT' := Lib.hid ht'
          obtain ⟨q, hq⟩ : ∃ q, q = sameT t t' := ⟨_, rfl⟩
          have HQS := Lib.hid hq
          clear hat hat' hTT hTT' ht ht' hq
          cases q
          all_goals
            go_wp2_with fail
            refine wp_region_below (by kernel_rfl) (by kernel_rfl) ?_
            repeat
              with_reducible refine wpQuiet_step (fun K hK => ?_)
              first
                | refine quiet_not (by rfl) (hK _ ?_)
                | refine quiet_any (by rfl) ?_
                  apply Exists.intro
                  refine ⟨fun wq hq => ?_, hK _ ?_⟩
                  · obtain ⟨qc, _⟩ := bcell hq.out
                    go_simp
                    first
                      | done
                      | (with_reducible rfl)
                      | ((go_at_call 42; exact call_in hq.out (refSame_q (topR_step T.out (by repeat (first | (with_reducible exact Below.refl _ _) | (with_reducible exact Below.refl _ _) | (with_reducible apply Below.drew) | (with_reducible apply below_alloc) | ((with_reducible refine Below.alloc ?_ ?_ _); rotate_left; focus (first | (simp; done) | (simp; omega) | omega)) | ((with_reducible refine Below.setCell ?_ ?_ _); rotate_left; focus (first | (simp; done) | (simp; omega) | omega)))) hq.out) (topR_step TQ.out (by repeat (first | (with_reducible exact Below.refl _ _) | (with_reducible exact Below.refl _ _) | (with_reducible apply Below.drew) | (with_reducible apply below_alloc) | ((with_reducible refine Below.alloc ?_ ?_ _); rotate_left; focus (first | (simp; done) | (simp; omega) | omega)) | ((with_reducible refine Below.setCell ?_ ?_ _); rotate_left; focus (first | (simp; done) | (simp; omega) | omega)))) hq.out) HQS.out)))
              clear hK K
              simp only [Act.put, List.setIfInBounds_toArray, List.set_cons_zero, List.set_cons_succ]
            refine wpQuiet_nil ?_
            rintro w4 hb
            replace HB : Hid (Below w.heap.size w _) := below_step (by repeat (first | (with_reducible exact HB.out) | (with_reducible exact Below.refl _ _) | (with_reducible apply Below.drew) | (with_reducible apply below_alloc) | ((with_reducible refine Below.alloc ?_ ?_ _); rotate_left; focus (first | (simp; done) | (simp; omega) | omega)) | ((with_reducible refine Below.setCell ?_ ?_ _); rotate_left; focus (first | (simp; done) | (simp; omega) | omega)))) hb
            clear p0 p1 pz pl
            replace HP : Hid (Blk _ (w.heap.size) _ _) := Blk.step (by repeat (first | (with_reducible exact HP.out) | ((with_reducible apply Blk.new); focus (first | rfl | (simp; done) | (simp; omega))) | (with_reducible apply Blk.drew) | (with_reducible apply Blk.alloc) | (with_reducible apply Blk.set_) | ((with_reducible apply Blk.far); rotate_left; focus (first | (simp; done) | (simp; omega) | omega)))) hb
            obtain ⟨p0, p1, pz⟩ := cells2 HP.out
            have pl := Blk.lt HP.out
            clear q0 q1 qz ql
            replace HQ : Hid (Blk _ (w.heap.size + 1) _ _) := Blk.step (by repeat (first | (with_reducible exact HQ.out) | ((with_reducible apply Blk.new); focus (first | rfl | (simp; done) | (simp; omega))) | (with_reducible apply Blk.drew) | (with_reducible apply Blk.alloc) | (with_reducible apply Blk.set_) | ((with_reducible apply Blk.far); rotate_left; focus (first | (simp; done) | (simp; omega) | omega)))) hb
            obtain ⟨q0, q1, qz⟩ := cells2 HQ.out
            have ql := Blk.lt HQ.out
            clear hb
            go_wp2_with fail
          · go_ret
            have e : z = false := by
              cases hzz : z with
              | false => rfl
              | true =>
                have h0 := HQS.out
                rw [HT.out, HT'.out, (str_ext.1 (HZ.out.1 hzz)).1, (sameT_iff _ _).2 rfl] at h0
                cases h0
            exact ⟨by rw [e]; rfl, HB.out⟩
          · go_roundg (n - (k + 1))
            case measure => omega
            case rel =>
              refine ⟨k + 1, by omega, rfl, by go_num, fun j hj => ?_, HB, HP, HQ⟩
              by_cases hjk : j < k
              · exact hall.out j hjk
              · obtain rfl : j = k := by omega
                rw [← HT.out, ← HT'.out]
                exact (sameT_iff _ _).1 HQS.out.symm
        · obtain rfl : k = n := by omega
          have hlt' : ¬ (k : Int) < (k : Int) := by omega
          go_wp2_with fail
          go_ret
          have e : z = true := HZ.out.2 (str_ext.2 ⟨tops_ext (by rw [← HN.out, HN'.out]) (by rw [← HN.out]; exact hall.out), of_decide_eq_true HDD.out.symm⟩)
          exact ⟨by rw [e]; rfl, HB.out⟩
  · have hd : ((n : Int) != (n' : Int)) = true := by simp; omega
    have HNE := Lib.hid hnn
    clear hnn
    go_enter Try.func16, Try.ntmps16
    go_wp2_with fail
    go_ret
    have e : z = false := by
      cases hzz : z with
      | false => rfl
      | true => exact absurd (by rw [HN.out, HN'.out, (str_ext.1 (HZ.out.1 hzz)).1]) HNE.out
    refine ⟨by rw [e]; rfl, ?_⟩
    repeat (first | (with_reducible exact Below.refl _ _) | (with_reducible exact Below.refl _ _) | (with_reducible apply Below.drew) | (with_reducible apply below_alloc) | ((with_reducible refine Below.alloc ?_ ?_ _); rotate_left; focus (first | (simp; done) | (simp; omega) | omega)) | ((with_reducible refine Below.setCell ?_ ?_ _); rotate_left; focus (first | (simp; done) | (simp; omega) | omega)))

set_option maxHeartbeats 4000000 in
set_option maxRecDepth 100000 in
theorem eqTop_any {v v' : Value} {l l' : List Top} {w : World} {z : Bool} (h : TopsR w v l) (h' : TopsR w v' l') (hz : z = true ↔ l = l') :
    Calls Try.prog 61 #[v, v', .func (.func 62) #[] #[]] w fun e w' => e = .returned (.bool z) ∧ Below w.heap.size w w' := by
  have HZ := Lib.hid hz
  obtain ⟨a, cap, rfl, hcap, hmx, _, hd⟩ := h.shape
  obtain ⟨a', cap', rfl, hcap', hmx', _, hd'⟩ := h'.shape
  have HD := Lib.hid hd
  have HD' := Lib.hid hd'
  obtain ⟨n, hn⟩ : ∃ n, n = l.length := ⟨_, rfl⟩
  obtain ⟨n', hn'⟩ : ∃ n, n = l'.length := ⟨_, rfl⟩
  rw [← hn] at HD hcap ⊢
  rw [← hn'] at HD' hcap' ⊢
  have HN := Lib.hid hn
  have HN' := Lib.hid hn'
  unfold maxLen at hmx hmx'
  have nn0 : (n : Int) ≤ 9223372036854775807 := by omega
  clear hz hd hd' hn hn' h h'
  by_cases hnn : n = n'
  · subst hnn
    have nn : ((n : Int) != (n : Int)) = false := by simp
    go_enter Try.func61, Try.ntmps61
    go_wp2_with fail
    go_loopg [17] n (fun g i wr => ∃ k : Nat, k ≤ n ∧ g = n - k ∧ i = .int .i64 (k : Int) ∧ Hid (∀ j, j < k → l.getD j default = l'.getD j default) ∧ Hid (Below w.heap.size w wr))
    case atStart => exact ⟨0, Nat.zero_le _, rfl, rfl, (fun j hj => absurd hj (Nat.not_lt_zero _)), Below.refl _ _⟩
    case round =>
      obtain ⟨k, hk, rfl, rfl, hall, HB⟩ := hrel
      by_cases hlt : k < n
      · have hk0 : (0 : Int) ≤ (k : Int) := by omega
        have hk1 : (k : Int) < (n : Int) := by omega
        obtain ⟨g, off, ha, hat⟩ := HD.out (by omega)
        subst ha
        obtain ⟨g', off', ha', hat'⟩ := HD'.out (by omega)
        subst ha'
        obtain ⟨ea, ecap, ⟨⟨⟨c0, c1⟩, c2⟩, c3⟩, hTT⟩ := (hat k hlt).keep HB.out
        obtain ⟨ea', ecap', ⟨⟨⟨d0, d1⟩, d2⟩, d3⟩, hTT'⟩ := (hat' k hlt).keep HB.out
        have T := Lib.hid hTT
        have TQ := Lib.hid hTT'
        have hg1 : g < wr.heap.size := World.block_lt_of_cell? wr _ c0
        have hg2 : g' < wr.heap.size := World.block_lt_of_cell? wr _ d0
        obtain ⟨t, ht⟩ : ∃ t, t = l.getD k default := ⟨_, rfl⟩
        obtain ⟨t', ht'⟩ : ∃ t, t = l'.getD k default := ⟨_, rfl⟩
        rw [← ht] at c0 c1 c2 c3 T
        rw [← ht'] at d0 d1 d2 d3 TQ
        have HT := Lib.hid ht
        have HT' := Lib.hid ht'
        obtain ⟨q, hq⟩ : ∃ q, q = sameT t t' := ⟨_, rfl⟩
        have HQS := Lib.hid hq
        clear hat hat' hTT hTT' ht ht' hq
        cases q
        all_goals
          go_wp2_with fail
          refine Calls.mono (topSame_q ?_ ?_ HQS.out) ?_
          · exact T.out.below (by repeat (first | (with_reducible exact Below.refl _ _) | (with_reducible exact Below.refl _ _) | (with_reducible apply Below.drew) | (with_reducible apply below_alloc) | ((with_reducible refine Below.alloc ?_ ?_ _); rotate_left; focus (first | (simp; done) | (simp; omega) | omega)) | ((with_reducible refine Below.setCell ?_ ?_ _); rotate_left; focus (first | (simp; done) | (simp; omega) | omega))))
          · exact TQ.out.below (by repeat (first | (with_reducible exact Below.refl _ _) | (with_reducible exact Below.refl _ _) | (with_reducible apply Below.drew) | (with_reducible apply below_alloc) | ((with_reducible refine Below.alloc ?_ ?_ _); rotate_left; focus (first | (simp; done) | (simp; omega) | omega)) | ((with_reducible refine Below.setCell ?_ ?_ _); rotate_left; focus (first | (simp; done) | (simp; omega) | omega))))
          rintro e w4 ⟨rfl, hb⟩
          replace HB : Hid (Below w.heap.size w _) := below_step (by repeat (first | (with_reducible exact HB.out) | (with_reducible exact Below.refl _ _) | (with_reducible apply Below.drew) | (with_reducible apply below_alloc) | ((with_reducible refine Below.alloc ?_ ?_ _); rotate_left; focus (first | (simp; done) | (simp; omega) | omega)) | ((with_reducible refine Below.setCell ?_ ?_ _); rotate_left; focus (first | (simp; done) | (simp; omega) | omega)))) hb
          clear hb c0 c1 c2 c3 d0 d1 d2 d3
          go_wp2_with fail
        · go_ret
          have e : z = false := by
            cases hzz : z with
            | false => rfl
            | true =>
              have h0 := HQS.out
              rw [HT.out, HT'.out, HZ.out.1 hzz, (sameT_iff _ _).2 rfl] at h0
              cases h0
          exact ⟨by rw [e]; rfl, HB.out⟩
        · go_roundg (n - (k + 1))
          case measure => omega
          case rel =>
            refine ⟨k + 1, by omega, rfl, by go_num, fun j hj => ?_, HB⟩
            by_cases hjk : j < k
            · exact hall.out j hjk
            · obtain rfl : j = k := by omega
              rw [← HT.out, ← HT'.out]
              exact (sameT_iff _ _).1 HQS.out.symm
      · obtain rfl : k = n := by omega
        have hlt' : ¬ (k : Int) < (k : Int) := by omega
        go_wp2_with fail
        go_ret
        have e : z = true := HZ.out.2 (tops_ext (by rw [← HN.out, HN'.out]) (by rw [← HN.out]; exact hall.out))
        exact ⟨by rw [e]; rfl, HB.out⟩
  · have hd : ((n : Int) != (n' : Int)) = true := by simp; omega
    have HNE := Lib.hid hnn
    clear hnn
    go_enter Try.func61, Try.ntmps61
    go_wp2_with fail
    go_ret
    have e : z = false := by
      cases hzz : z with
      | false => rfl
      | true => exact absurd (by rw [HN.out, HN'.out, HZ.out.1 hzz]) HNE.out
    exact ⟨by rw [e]; rfl, Below.refl _ _⟩

open Classical in
theorem strSame_any {v v' : Value} {s s' : Str} {w : World} {z : Bool} (h : StrR w v s) (h' : StrR w v' s') (hz : z = true ↔ s = s') :
    Calls Try.prog 26 #[v, v'] w fun e w' => e = .returned (.bool z) ∧ Below w.heap.size w w' := by
  have HZ := Lib.hid hz
  obtain ⟨a, cap, b, nc, cc, rfl, hT, hR⟩ := h.shape
  obtain ⟨a', cap', b', nc', cc', rfl, hT', hR'⟩ := h'.shape
  obtain ⟨q, hq⟩ : ∃ q : Bool, q = true ↔ s.tops = s'.tops := ⟨decide (s.tops = s'.tops), by simp⟩
  obtain ⟨d, hd⟩ : ∃ d, d = decide (s.coms = s'.coms) := ⟨_, rfl⟩
  have HQT := Lib.hid hq.1
  have HQF := Lib.hid (show s.tops = s'.tops → q = true from hq.2)
  have HE := Lib.hid (fun W (hW : TopsR W (.slice a s.tops.length cap) s.tops) (hW' : TopsR W (.slice a' s'.tops.length cap') s'.tops) => eqTop_any hW hW' hq)
  have HDD := Lib.hid hd
  have M := fun W (hW : RowsR W (.slice b nc cc) s.coms) (hW' : RowsR W (.slice b' nc' cc') s'.coms) => same_any hW hW'
  rw [← hd] at M
  have HM := Lib.hid M
  have TT := Lib.hid hT
  have TT' := Lib.hid hT'
  have RR := Lib.hid hR
  have RR' := Lib.hid hR'
  obtain ⟨n, hn⟩ : ∃ n, n = s.tops.length := ⟨_, rfl⟩
  obtain ⟨n', hn'⟩ : ∃ n, n = s'.tops.length := ⟨_, rfl⟩
  rw [← hn] at TT HE ⊢
  rw [← hn'] at TT' HE ⊢
  clear M hd hz hT hT' hR hR' hq hn hn' h h'
  cases q
  · go_enter Try.func26, Try.ntmps26
    go_wp2_with fail
    refine Calls.mono (HE.out _ ?_ ?_) ?_
    · exact TT.out.below (by repeat (first | (with_reducible exact Below.refl _ _) | (with_reducible exact Below.refl _ _) | (with_reducible apply Below.drew) | (with_reducible apply below_alloc) | ((with_reducible refine Below.alloc ?_ ?_ _); rotate_left; focus (first | (simp; done) | (simp; omega) | omega)) | ((with_reducible refine Below.setCell ?_ ?_ _); rotate_left; focus (first | (simp; done) | (simp; omega) | omega))))
    · exact TT'.out.below (by repeat (first | (with_reducible exact Below.refl _ _) | (with_reducible exact Below.refl _ _) | (with_reducible apply Below.drew) | (with_reducible apply below_alloc) | ((with_reducible refine Below.alloc ?_ ?_ _); rotate_left; focus (first | (simp; done) | (simp; omega) | omega)) | ((with_reducible refine Below.setCell ?_ ?_ _); rotate_left; focus (first | (simp; done) | (simp; omega) | omega))))
    rintro e w1 ⟨rfl, hb⟩
    have HB : Hid (Below w.heap.size w _) := below_step (by repeat (first | (with_reducible exact Below.refl _ _) | (with_reducible exact Below.refl _ _) | (with_reducible apply Below.drew) | (with_reducible apply below_alloc) | ((with_reducible refine Below.alloc ?_ ?_ _); rotate_left; focus (first | (simp; done) | (simp; omega) | omega)) | ((with_reducible refine Below.setCell ?_ ?_ _); rotate_left; focus (first | (simp; done) | (simp; omega) | omega)))) hb
    clear hb
    go_wp2_with fail
    go_ret
    have e : z = false := by
      cases hzz : z with
      | false => rfl
      | true => have := HQF.out (str_ext.1 (HZ.out.1 hzz)).1; simp at this
    exact ⟨by rw [e]; rfl, HB.out⟩
  · cases d
    all_goals
      go_enter Try.func26, Try.ntmps26
      go_wp2_with fail
      refine Calls.mono (HE.out _ ?_ ?_) ?_
      · exact TT.out.below (by repeat (first | (with_reducible exact Below.refl _ _) | (with_reducible exact Below.refl _ _) | (with_reducible apply Below.drew) | (with_reducible apply below_alloc) | ((with_reducible refine Below.alloc ?_ ?_ _); rotate_left; focus (first | (simp; done) | (simp; omega) | omega)) | ((with_reducible refine Below.setCell ?_ ?_ _); rotate_left; focus (first | (simp; done) | (simp; omega) | omega))))
      · exact TT'.out.below (by repeat (first | (with_reducible exact Below.refl _ _) | (with_reducible exact Below.refl _ _) | (with_reducible apply Below.drew) | (with_reducible apply below_alloc) | ((with_reducible refine Below.alloc ?_ ?_ _); rotate_left; focus (first | (simp; done) | (simp; omega) | omega)) | ((with_reducible refine Below.setCell ?_ ?_ _); rotate_left; focus (first | (simp; done) | (simp; omega) | omega))))
      rintro e w1 ⟨rfl, hb⟩
      have HB : Hid (Below w.heap.size w _) := below_step (by repeat (first | (with_reducible exact Below.refl _ _) | (with_reducible exact Below.refl _ _) | (with_reducible apply Below.drew) | (with_reducible apply below_alloc) | ((with_reducible refine Below.alloc ?_ ?_ _); rotate_left; focus (first | (simp; done) | (simp; omega) | omega)) | ((with_reducible refine Below.setCell ?_ ?_ _); rotate_left; focus (first | (simp; done) | (simp; omega) | omega)))) hb
      have P : Blk _ (w.heap.size) _ _ := Blk.step (by repeat (first | ((with_reducible apply Blk.new); focus (first | rfl | (simp; done) | (simp; omega))) | (with_reducible apply Blk.drew) | (with_reducible apply Blk.alloc) | (with_reducible apply Blk.set_) | ((with_reducible apply Blk.far); rotate_left; focus (first | (simp; done) | (simp; omega) | omega)))) hb
      obtain ⟨p0, p1, pz⟩ := cells2 P
      have pl := Blk.lt P
      have HP := Lib.hid P
      clear P
      have Q2 : Blk _ (w.heap.size + 1) _ _ := Blk.step (by repeat (first | ((with_reducible apply Blk.new); focus (first | rfl | (simp; done) | (simp; omega))) | (with_reducible apply Blk.drew) | (with_reducible apply Blk.alloc) | (with_reducible apply Blk.set_) | ((with_reducible apply Blk.far); rotate_left; focus (first | (simp; done) | (simp; omega) | omega)))) hb
      obtain ⟨q20, q21, q2z⟩ := cells2 Q2
      have q2l := Blk.lt Q2
      have HQ2 := Lib.hid Q2
      clear Q2
      clear hb
      go_wp2_with fail
      refine Calls.mono (HM.out _ ?_ ?_) ?_
      · exact RR.out.below HB.out
      · exact RR'.out.below HB.out
      rintro e w2 ⟨rfl, hb⟩
      replace HB : Hid (Below w.heap.size w _) := below_step (by repeat (first | (with_reducible exact HB.out) | (with_reducible exact Below.refl _ _) | (with_reducible apply Below.drew) | (with_reducible apply below_alloc) | ((with_reducible refine Below.alloc ?_ ?_ _); rotate_left; focus (first | (simp; done) | (simp; omega) | omega)) | ((with_reducible refine Below.setCell ?_ ?_ _); rotate_left; focus (first | (simp; done) | (simp; omega) | omega)))) hb
      clear hb
      go_wp2_with fail
      go_ret
    · have e : z = false := by
        cases hzz : z with
        | false => rfl
        | true => exact absurd (str_ext.1 (HZ.out.1 hzz)).2 (of_decide_eq_false HDD.out.symm)
      exact ⟨by rw [e]; rfl, HB.out⟩
    · have e : z = true := HZ.out.2 (str_ext.2 ⟨HQT.out (by trivial), of_decide_eq_true HDD.out.symm⟩)
      exact ⟨by rw [e]; rfl, HB.out⟩
end Go.Proofs.Ytblgmjbajnkcdaa
