/-
  The document's Same of models. No condition but that the models read.
-/
import Derived.Test.YtblgmjbajnkcdabMdlR
import Derived.Test.YtblgmjbajnkcdabBunK
import Derived.Test.YtblgmjbajnkcdabBunS
import Derived.Deep.LoopGhost
namespace Go.Proofs.Ytblgmjbajnkcdab
open Go.RowKit

theorem pls_ext {l l' : List Pl} (h : l.length = l'.length) (hall : ∀ j, j < l.length → l.getD j default = l'.getD j default) : l = l' := list_eq_of default h hall
theorem mdl_ext {s s' : Mdl} : s = s' ↔ s.tops = s'.tops ∧ s.coms = s'.coms := by
  cases s; cases s'; simp
def sameP (t t' : Pl) : Bool := t.base == t'.base && (t.mark == t'.mark && sameE t.all t'.all)
theorem sameP_iff (t t' : Pl) : sameP t t' = true ↔ t = t' := by
  obtain ⟨a, b, c⟩ := t
  obtain ⟨a', b', c'⟩ := t'
  simp [sameP, sameE_iff]
  constructor
  · rintro ⟨h1, h2, h3⟩; exact ⟨h3, h1, h2⟩
  · rintro ⟨h1, h2, h3⟩; exact ⟨h2, h3, h1⟩
theorem sameEnts_q {v v' : Value} {l l' : List Ent} {w : World} {q : Bool} (h : SliceR w v 4 entCells l) (h' : SliceR w v' 4 entCells l') (hq : q = sameE l l') :
    Calls Try.prog 49 #[v, v'] w fun e w' => e = .returned (.bool q) ∧ Below w.heap.size w w' := by
  rw [hq]; exact (sameEnts_any h h').mono fun e w' hh => by first | exact hh | (obtain ⟨h1, rfl⟩ := hh; exact ⟨h1, Below.refl _ _⟩) | (obtain ⟨h1, h2⟩ := hh; subst h2; exact ⟨h1, Below.refl _ _⟩)

set_option maxHeartbeats 8000000 in
set_option maxRecDepth 100000 in
theorem mdlRSame_any {v v' : Value} {s s' : Mdl} {w : World} {z : Bool} (h : MdlR w v s) (h' : MdlR w v' s') (hz : z = true ↔ s = s') :
    Calls Try.prog 16 #[v, v'] w fun e w' => e = .returned (.bool z) ∧ Below w.heap.size w w' := by
  have HZ := Lib.hid hz
  obtain ⟨a, cap, b, nc, cc, rfl, hT, hR⟩ := h.shape
  obtain ⟨a', cap', b', nc', cc', rfl, hT', hR'⟩ := h'.shape
  obtain ⟨aa, ccap, hv, hcap, hmx, _, hd⟩ := hT.shape
  cases hv
  obtain ⟨aa', ccap', hv', hcap', hmx', _, hd'⟩ := hT'.shape
  cases hv'
  have HD := Lib.hid hd
  have HD' := Lib.hid hd'
  have RR := Lib.hid hR
  have RR' := Lib.hid hR'
  obtain ⟨n, hn⟩ : ∃ n, n = s.tops.length := ⟨_, rfl⟩
  obtain ⟨n', hn'⟩ : ∃ n, n = s'.tops.length := ⟨_, rfl⟩
  rw [← hn] at HD hcap ⊢
  rw [← hn'] at HD' hcap' ⊢
  have HN := Lib.hid hn
  have HN' := Lib.hid hn'
  unfold maxLen at hmx hmx'
  have nn0 : (n : Int) ≤ 9223372036854775807 := by omega
  clear hz hT hR hT' hR' hd hd' hn hn' h h'
  by_cases hnn : n = n'
  · subst hnn
    have nn : ((n : Int) != (n : Int)) = false := by simp
    obtain ⟨d, hd⟩ : ∃ d, d = decide (s.coms = s'.coms) := ⟨_, rfl⟩
    have HDD := Lib.hid hd
    have M := fun W (hW : RowsR W (.slice b nc cc) s.coms) (hW' : RowsR W (.slice b' nc' cc') s'.coms) => refSameC_any hW hW'
    rw [← hd] at M
    have HM := Lib.hid M
    clear M hd
    cases d
    · go_enter Try.func16, Try.ntmps16
      go_wp2_with fail
      refine Calls.mono (HM.out _ ?_ ?_) ?_
      · exact RR.out.below (by repeat (first | (with_reducible exact Below.refl _ _) | (with_reducible exact Below.refl _ _) | (with_reducible apply Below.drew) | (with_reducible apply below_alloc) | ((with_reducible refine Below.alloc ?_ ?_ _); rotate_left; focus (first | (simp; done) | (simp; omega) | omega)) | ((with_reducible refine Below.setCell ?_ ?_ _); rotate_left; focus (first | (simp; done) | (simp; omega) | omega))))
      · exact RR'.out.below (by repeat (first | (with_reducible exact Below.refl _ _) | (with_reducible exact Below.refl _ _) | (with_reducible apply Below.drew) | (with_reducible apply below_alloc) | ((with_reducible refine Below.alloc ?_ ?_ _); rotate_left; focus (first | (simp; done) | (simp; omega) | omega)) | ((with_reducible refine Below.setCell ?_ ?_ _); rotate_left; focus (first | (simp; done) | (simp; omega) | omega))))
      rintro e w1 ⟨rfl, hb⟩
      have HB : Hid (Below w.heap.size w _) := below_step (by repeat (first | (with_reducible exact Below.refl _ _) | (with_reducible exact Below.refl _ _) | (with_reducible apply Below.drew) | (with_reducible apply below_alloc) | ((with_reducible refine Below.alloc ?_ ?_ _); rotate_left; focus (first | (simp; done) | (simp; omega) | omega)) | ((with_reducible refine Below.setCell ?_ ?_ _); rotate_left; focus (first | (simp; done) | (simp; omega) | omega)))) hb
      clear hb
      go_wp2_with fail
      go_ret
      have e : z = false := by
        cases hzz : z with
        | false => rfl
        | true => exact absurd (mdl_ext.1 (HZ.out.1 hzz)).2 (of_decide_eq_false HDD.out.symm)
      exact ⟨by rw [e]; rfl, HB.out⟩
    · go_enter Try.func16, Try.ntmps16
      go_wp2_with fail
      refine Calls.mono (HM.out _ ?_ ?_) ?_
      · exact RR.out.below (by repeat (first | (with_reducible exact Below.refl _ _) | (with_reducible exact Below.refl _ _) | (with_reducible apply Below.drew) | (with_reducible apply below_alloc) | ((with_reducible refine Below.alloc ?_ ?_ _); rotate_left; focus (first | (simp; done) | (simp; omega) | omega)) | ((with_reducible refine Below.setCell ?_ ?_ _); rotate_left; focus (first | (simp; done) | (simp; omega) | omega))))
      · exact RR'.out.below (by repeat (first | (with_reducible exact Below.refl _ _) | (with_reducible exact Below.refl _ _) | (with_reducible apply Below.drew) | (with_reducible apply below_alloc) | ((with_reducible refine Below.alloc ?_ ?_ _); rotate_left; focus (first | (simp; done) | (simp; omega) | omega)) | ((with_reducible refine Below.setCell ?_ ?_ _); rotate_left; focus (first | (simp; done) | (simp; omega) | omega))))
      rintro e w1 ⟨rfl, hb⟩
      have HB : Hid (Below w.heap.size w _) := below_step (by repeat (first | (with_reducible exact Below.refl _ _) | (with_reducible exact Below.refl _ _) | (with_reducible apply Below.drew) | (with_reducible apply below_alloc) | ((with_reducible refine Below.alloc ?_ ?_ _); rotate_left; focus (first | (simp; done) | (simp; omega) | omega)) | ((with_reducible refine Below.setCell ?_ ?_ _); rotate_left; focus (first | (simp; done) | (simp; omega) | omega)))) hb
      have P : Blk _ (w.heap.size) _ _ := Blk.step (by repeat (first | ((with_reducible apply Blk.new); focus (first | rfl | (simp; done) | (simp; omega))) | (with_reducible apply Blk.drew) | (with_reducible apply Blk.alloc) | (with_reducible apply Blk.set_) | ((with_reducible apply Blk.far); rotate_left; focus (first | (simp; done) | (simp; omega) | omega)))) hb
      obtain ⟨p0, p1, pz⟩ := cells2 P
      have pl := Blk.lt P
      have HP := Lib.hid P
      clear P
      have Q : Blk _ (w.heap.size + 1) _ _ := Blk.step (by repeat (first | ((with_reducible apply Blk.new); focus (first | rfl | (simp; done) | (simp; omega))) | (with_reducible apply Blk.drew) | (with_reducible apply Blk.alloc) | (with_reducible apply Blk.set_) | ((with_reducible apply Blk.far); rotate_left; focus (first | (simp; done) | (simp; omega) | omega)))) hb
      obtain ⟨q0, q1, qz⟩ := cells2 Q
      have ql := Blk.lt Q
      have HQ := Lib.hid Q
      clear Q
      clear hb
      go_wp2_with fail
      go_loopg [5] n (fun g i wr => ∃ k : Nat, k ≤ n ∧ g = n - k ∧ i = .int .i64 (k : Int) ∧ Hid (∀ j, j < k → s.tops.getD j default = s'.tops.getD j default) ∧ Hid (Below w.heap.size w wr) ∧
        Hid (Blk wr w.heap.size 25 [.slice a n cap, .slice b nc cc]) ∧ Hid (Blk wr (w.heap.size + 1) 25 [.slice a' n cap', .slice b' nc' cc']))
      case atStart => exact ⟨0, Nat.zero_le _, rfl, rfl, (fun j hj => absurd hj (Nat.not_lt_zero _)), HB, HP, HQ⟩
      case round =>
        clear HB HP HQ p0 p1 pz pl q0 q1 qz ql
        obtain ⟨k, hk, rfl, rfl, hall, HB, HP, HQ⟩ := hrel
        obtain ⟨p0, p1, pz⟩ := cells2 HP.out
        obtain ⟨q0, q1, qz⟩ := cells2 HQ.out
        have pl := HP.out.lt
        have ql := HQ.out.lt
        by_cases hlt : k < n
        · have hk0 : (0 : Int) ≤ (k : Int) := by omega
          have hk1 : (k : Int) < (n : Int) := by omega
          obtain ⟨g, off, ha, hat⟩ := HD.out (by omega)
          subst ha
          obtain ⟨g', off', ha', hat'⟩ := HD'.out (by omega)
          subst ha'
          obtain ⟨ea, ecap, ⟨⟨c0, c1⟩, c2⟩, hTT⟩ := (hat k hlt).keep HB.out
          obtain ⟨ea', ecap', ⟨⟨d0, d1⟩, d2⟩, hTT'⟩ := (hat' k hlt).keep HB.out
          have hg1 : g < wr.heap.size := World.block_lt_of_cell? wr _ c0
          have hg2 : g' < wr.heap.size := World.block_lt_of_cell? wr _ d0
          obtain ⟨t, ht⟩ : ∃ t, t = s.tops.getD k default := ⟨_, rfl⟩
          obtain ⟨t', ht'⟩ : ∃ t, t = s'.tops.getD k default := ⟨_, rfl⟩
          rw [← ht] at c0 c1 c2 hTT
          rw [← ht'] at d0 d1 d2 hTT'
          have HT := Lib.hid ht
          have HT' := Lib.hid ht'
          have HS1 : Hid (SliceR wr (.slice ea t.all.length ecap) 4 entCells t.all) := by
            obtain ⟨a9, c9, ev, hs⟩ := hTT
            cases ev
            exact Lib.hid hs
          have HS2 : Hid (SliceR wr (.slice ea' t'.all.length ecap') 4 entCells t'.all) := by
            obtain ⟨a9, c9, ev, hs⟩ := hTT'
            cases ev
            exact Lib.hid hs
          obtain ⟨bs, hbs⟩ : ∃ bs, bs = t.base := ⟨_, rfl⟩
          obtain ⟨ms, hms⟩ : ∃ ms, ms = t.mark := ⟨_, rfl⟩
          obtain ⟨bs', hbs'⟩ : ∃ bs, bs = t'.base := ⟨_, rfl⟩
          obtain ⟨ms', hms'⟩ : ∃ ms, ms = t'.mark := ⟨_, rfl⟩
          obtain ⟨q, hq⟩ : ∃ q, q = sameE t.all t'.all := ⟨_, rfl⟩
          have HQS := Lib.hid hq
          have hiff : t = t' ↔ (bs == bs') = true ∧ (ms == ms') = true ∧ q = true := by
            rw [← sameP_iff, hbs, hbs', hms, hms', hq]
            simp [sameP]
          have HIFF := Lib.hid hiff
          rw [← hbs] at c1
          rw [← hms] at c2
          rw [← hbs'] at d1
          rw [← hms'] at d2
          have hc : ((bs != bs') = true ∨ ((bs != bs') = false ∧ (ms != ms') = true)) ∨ ((bs != bs') = false ∧ (ms != ms') = false) := by
            cases (bs != bs') <;> cases (ms != ms') <;> simp
          clear hat hat' hTT hTT' ht ht' hq hbs hms hbs' hms' hiff
          rcases hc with (e1 | ⟨e1, e2⟩) | ⟨e1, e2⟩
          rotate_right
          · cases q
            all_goals
              go_wp2_with fail
              refine wp_region_below (by kernel_rfl) (by kernel_rfl) ?_
              repeat
                with_reducible refine wpQuiet_step (fun K hK => ?_)
                first
                  | refine quiet_not (by rfl) (hK _ ?_)
                  | refine quiet_any (by rfl) ?_
                    apply Exists.intro
                    refine ⟨fun wq hq => ?_, hK _ ?_⟩
                    · obtain ⟨qc, _⟩ := bcell hq.out
                      go_simp
                      first
                        | done
                        | (with_reducible rfl)
                        | ((go_at_call 49; exact call_in hq.out (sameEnts_q (HS1.out.below entCells_len (by repeat (first | (with_reducible exact Below.refl _ _) | (with_reducible exact Below.refl _ _) | (with_reducible apply Below.drew) | (with_reducible apply below_alloc) | ((with_reducible refine Below.alloc ?_ ?_ _); rotate_left; focus (first | (simp; done) | (simp; omega) | omega)) | ((with_reducible refine Below.setCell ?_ ?_ _); rotate_left; focus (first | (simp; done) | (simp; omega) | omega)))) |>.below entCells_len hq.out) (HS2.out.below entCells_len (by repeat (first | (with_reducible exact Below.refl _ _) | (with_reducible exact Below.refl _ _) | (with_reducible apply Below.drew) | (with_reducible apply below_alloc) | ((with_reducible refine Below.alloc ?_ ?_ _); rotate_left; focus (first | (simp; done) | (simp; omega) | omega)) | ((with_reducible refine Below.setCell ?_ ?_ _); rotate_left; focus (first | (simp; done) | (simp; omega) | omega)))) |>.below entCells_len hq.out) HQS.out)))
                clear hK K
                simp only [Act.put, List.setIfInBounds_toArray, List.set_cons_zero, List.set_cons_succ]
              refine wpQuiet_nil ?_
              rintro w4 hb
              replace HB : Hid (Below w.heap.size w _) := below_step (by repeat (first | (with_reducible exact HB.out) | (with_reducible exact Below.refl _ _) | (with_reducible apply Below.drew) | (with_reducible apply below_alloc) | ((with_reducible refine Below.alloc ?_ ?_ _); rotate_left; focus (first | (simp; done) | (simp; omega) | omega)) | ((with_reducible refine Below.setCell ?_ ?_ _); rotate_left; focus (first | (simp; done) | (simp; omega) | omega)))) hb
              clear p0 p1 pz pl
              replace HP : Hid (Blk _ (w.heap.size) _ _) := Blk.step (by repeat (first | (with_reducible exact HP.out) | ((with_reducible apply Blk.new); focus (first | rfl | (simp; done) | (simp; omega))) | (with_reducible apply Blk.drew) | (with_reducible apply Blk.alloc) | (with_reducible apply Blk.set_) | ((with_reducible apply Blk.far); rotate_left; focus (first | (simp; done) | (simp; omega) | omega)))) hb
              obtain ⟨p0, p1, pz⟩ := cells2 HP.out
              have pl := Blk.lt HP.out
              clear q0 q1 qz ql
              replace HQ : Hid (Blk _ (w.heap.size + 1) _ _) := Blk.step (by repeat (first | (with_reducible exact HQ.out) | ((with_reducible apply Blk.new); focus (first | rfl | (simp; done) | (simp; omega))) | (with_reducible apply Blk.drew) | (with_reducible apply Blk.alloc) | (with_reducible apply Blk.set_) | ((with_reducible apply Blk.far); rotate_left; focus (first | (simp; done) | (simp; omega) | omega)))) hb
              obtain ⟨q0, q1, qz⟩ := cells2 HQ.out
              have ql := Blk.lt HQ.out
              clear hb
              go_wp2_with fail
            · go_ret
              have e : z = false := by
                cases hzz : z with
                | false => rfl
                | true =>
                  have h0 : t = t' := by rw [HT.out, HT'.out, (mdl_ext.1 (HZ.out.1 hzz)).1]
                  have := (HIFF.out.1 h0).2.2
                  cases this
              exact ⟨by rw [e]; rfl, HB.out⟩
            · go_roundg (n - (k + 1))
              case measure => omega
              case rel =>
                refine ⟨k + 1, by omega, rfl, by go_num, fun j hj => ?_, HB, HP, HQ⟩
                by_cases hjk : j < k
                · exact hall.out j hjk
                · obtain rfl : j = k := by omega
                  rw [← HT.out, ← HT'.out]
                  exact HIFF.out.2 ⟨by simpa using e1, by simpa using e2, by simp⟩
          all_goals
            go_wp2_with fail
            refine wp_region_below (by kernel_rfl) (by kernel_rfl) ?_
            repeat
              with_reducible refine wpQuiet_step (fun K hK => ?_)
              first
                | refine quiet_not (by rfl) (hK _ ?_)
                | refine quiet_any (by rfl) ?_
                  apply Exists.intro
                  refine ⟨fun wq hq => ?_, hK _ ?_⟩
                  · obtain ⟨qc, _⟩ := bcell hq.out
                    go_simp
                    first
                      | done
                      | (with_reducible rfl)
                      | ((fail))
              clear hK K
              simp only [Act.put, List.setIfInBounds_toArray, List.set_cons_zero, List.set_cons_succ]
            refine wpQuiet_nil ?_
            rintro w4 hb
            replace HB : Hid (Below w.heap.size w _) := below_step (by repeat (first | (with_reducible exact HB.out) | (with_reducible exact Below.refl _ _) | (with_reducible apply Below.drew) | (with_reducible apply below_alloc) | ((with_reducible refine Below.alloc ?_ ?_ _); rotate_left; focus (first | (simp; done) | (simp; omega) | omega)) | ((with_reducible refine Below.setCell ?_ ?_ _); rotate_left; focus (first | (simp; done) | (simp; omega) | omega)))) hb
            clear p0 p1 pz pl
            replace HP : Hid (Blk _ (w.heap.size) _ _) := Blk.step (by repeat (first | (with_reducible exact HP.out) | ((with_reducible apply Blk.new); focus (first | rfl | (simp; done) | (simp; omega))) | (with_reducible apply Blk.drew) | (with_reducible apply Blk.alloc) | (with_reducible apply Blk.set_) | ((with_reducible apply Blk.far); rotate_left; focus (first | (simp; done) | (simp; omega) | omega)))) hb
            obtain ⟨p0, p1, pz⟩ := cells2 HP.out
            have pl := Blk.lt HP.out
            clear q0 q1 qz ql
            replace HQ : Hid (Blk _ (w.heap.size + 1) _ _) := Blk.step (by repeat (first | (with_reducible exact HQ.out) | ((with_reducible apply Blk.new); focus (first | rfl | (simp; done) | (simp; omega))) | (with_reducible apply Blk.drew) | (with_reducible apply Blk.alloc) | (with_reducible apply Blk.set_) | ((with_reducible apply Blk.far); rotate_left; focus (first | (simp; done) | (simp; omega) | omega)))) hb
            obtain ⟨q0, q1, qz⟩ := cells2 HQ.out
            have ql := Blk.lt HQ.out
            clear hb
            go_wp2_with fail
            go_ret
            have e : z = false := by
              cases hzz : z with
              | false => rfl
              | true =>
                have h0 : t = t' := by rw [HT.out, HT'.out, (mdl_ext.1 (HZ.out.1 hzz)).1]
                have h1 := (HIFF.out.1 h0).1
                have h2 := (HIFF.out.1 h0).2.1
                first | (rw [bne, h2] at e2; exact absurd e2 (by decide)) | (rw [bne, h1] at e1; exact absurd e1 (by decide))
            exact ⟨by rw [e]; rfl, HB.out⟩
        · obtain rfl : k = n := by omega
          have hlt' : ¬ (k : Int) < (k : Int) := by omega
          go_wp2_with fail
          go_ret
          have e : z = true := HZ.out.2 (mdl_ext.2 ⟨pls_ext (by rw [← HN.out, HN'.out]) (by rw [← HN.out]; exact hall.out), of_decide_eq_true HDD.out.symm⟩)
          exact ⟨by rw [e]; rfl, HB.out⟩
  · have hd : ((n : Int) != (n' : Int)) = true := by simp; omega
    have HNE := Lib.hid hnn
    clear hnn
    go_enter Try.func16, Try.ntmps16
    go_wp2_with fail
    go_ret
    have e : z = false := by
      cases hzz : z with
      | false => rfl
      | true => exact absurd (by rw [HN.out, HN'.out, (mdl_ext.1 (HZ.out.1 hzz)).1]) HNE.out
    refine ⟨by rw [e]; rfl, ?_⟩
    repeat (first | (with_reducible exact Below.refl _ _) | (with_reducible exact Below.refl _ _) | (with_reducible apply Below.drew) | (with_reducible apply below_alloc) | ((with_reducible refine Below.alloc ?_ ?_ _); rotate_left; focus (first | (simp; done) | (simp; omega) | omega)) | ((with_reducible refine Below.setCell ?_ ?_ _); rotate_left; focus (first | (simp; done) | (simp; omega) | omega)))
end Go.Proofs.Ytblgmjbajnkcdab
