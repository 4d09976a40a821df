/-
  stream.Twin. No condition but that the topics read and are not great.
-/
import Derived.Test.YtblgmjbajnkcdaaStrO
import Derived.Test.YtblgmjbajnkcdaaStrP
import Derived.Deep.LoopGhost
import Derived.Deep.RegionLaw
import Derived.Deep.AppendLies
namespace Go.Proofs.Ytblgmjbajnkcdaa
open Go.RowKit

/-- Not great. -/
def fewS (s : Str) : Prop := s.tops.length ≤ 1000000 ∧ (∀ t ∈ s.tops, t.ents.length ≤ 1000000) ∧ few s.coms
def StrEnd (s : Str) (w : World) (e : Ending) (w' : World) : Prop := ∃ ta tc, e = .returned (.agg #[ta, tc]) ∧ OwnS w' w.heap.size (.agg #[ta, tc]) s ∧ Below w.heap.size w w'

theorem OwnT.snoc2 {w w' : World} {B n : Nat} {v v' u : Value} {l : List Top} {t : Top} {pl : List (Value × Top)} (h1 : pl.map (·.2) = l) (h2 : w.ownsRow B 72 4 v n (pl.flatMap topCells)) (h3 : ∀ p ∈ pl, OwnE w B p.1 p.2.ents)
    (hu : OwnE w B u t.ents) (hg : w.grownBy w' v.ownBlock) (hv : w'.ownsRow B 72 4 v' (n + 1) (pl.flatMap topCells ++ topCells (u, t))) (hn : n = l.length) : OwnT w' B v' (l ++ [t]) := by
  have hne : ∀ q : Value × Top, OwnE w B q.1 q.2.ents → OwnE w' B q.1 q.2.ents := fun q hq => ownsRow_grown' hq hg (fun k hk => rows_ne hq h2 (by decide) hk)
  refine ⟨pl ++ [(u, t)], by simp [h1], ?_, fun p hp => ?_⟩
  · rw [List.length_append, ← hn]
    simpa [List.flatMap_append] using hv
  · rcases List.mem_append.1 hp with hp | hp
    · exact hne p (h3 p hp)
    · rw [List.mem_singleton.1 hp]
      exact hne (u, t) hu

set_option maxHeartbeats 8000000 in
set_option maxRecDepth 100000 in
theorem strTwin_any {v : Value} {s : Str} {w : World} (h : StrR w v s) (hf : fewS s) : Calls Try.prog 24 #[v] w (StrEnd s w) := by
  obtain ⟨i0, hi, hz0, hz1, hz2⟩ := info_parts info_top
  obtain ⟨hf1, hf2, hf3⟩ := hf
  have HF2 := Lib.hid hf2
  have HF3 := Lib.hid hf3
  obtain ⟨a, cap, b, nc, cc, rfl, hT, hR⟩ := h.shape
  obtain ⟨aa, ccap, hv, hcap, hmx, _, hd⟩ := hT.shape
  cases hv
  have HD := Lib.hid hd
  have RR := Lib.hid hR
  obtain ⟨n, hn⟩ : ∃ n, n = s.tops.length := ⟨_, rfl⟩
  rw [← hn] at HD hcap hf1 ⊢
  have HN := Lib.hid hn
  have nn0 : (n : Int) ≤ 1000000 := by omega
  clear hf2 hf3 hT hR hd hn h hmx
  go_enter Try.func24, Try.ntmps24
  go_wp2_with fail
  refine Calls.mono (twin_any (m := s.coms) ?_ HF3.out) ?_
  · exact RR.out.below (by repeat (first | (with_reducible exact Below.refl _ _) | (with_reducible exact Below.refl _ _) | (with_reducible apply Below.drew) | (with_reducible apply below_alloc) | ((with_reducible refine Below.alloc ?_ ?_ _); rotate_left; focus (first | (simp; done) | (simp; omega) | omega)) | ((with_reducible refine Below.setCell ?_ ?_ _); rotate_left; focus (first | (simp; done) | (simp; omega) | omega))))
  rintro e w1 ⟨vc, rfl, oc, hb⟩
  obtain ⟨ac, nac, cac, rfl⟩ := oc.reads.shape
  have HB : Hid (Below w.heap.size w _) := below_step (by repeat (first | (with_reducible exact Below.refl _ _) | (with_reducible exact Below.refl _ _) | (with_reducible apply Below.drew) | (with_reducible apply below_alloc) | ((with_reducible refine Below.alloc ?_ ?_ _); rotate_left; focus (first | (simp; done) | (simp; omega) | omega)) | ((with_reducible refine Below.setCell ?_ ?_ _); rotate_left; focus (first | (simp; done) | (simp; omega) | omega)))) hb
  have P : Blk _ (w.heap.size) _ _ := Blk.step (by repeat (first | ((with_reducible apply Blk.new); focus (first | rfl | (simp; done) | (simp; omega))) | (with_reducible apply Blk.drew) | (with_reducible apply Blk.alloc) | (with_reducible apply Blk.set_) | ((with_reducible apply Blk.far); rotate_left; focus (first | (simp; done) | (simp; omega) | omega)))) hb
  obtain ⟨p0, p1, pz⟩ := cells2 P
  have pl := Blk.lt P
  have HP := Lib.hid P
  clear P
  have R : Blk _ (w.heap.size + 1) _ _ := Blk.step (by repeat (first | ((with_reducible apply Blk.new); focus (first | rfl | (simp; done) | (simp; omega))) | (with_reducible apply Blk.drew) | (with_reducible apply Blk.alloc) | (with_reducible apply Blk.set_) | ((with_reducible apply Blk.far); rotate_left; focus (first | (simp; done) | (simp; omega) | omega)))) hb
  obtain ⟨r0, r1, rz⟩ := cells2 R
  have rl := Blk.lt R
  have HR := Lib.hid R
  clear R
  have OC : Hid (OwnC w1 (w.heap.size + 2) _ _) := oc.le (by simp)
  have HCL := Lib.hid (show ∀ k, (Value.slice ac nac cac).ownBlock = some k → k < w1.heap.size from fun k hk => (oc.choose_spec.1.lt k hk).2)
  have s1 : w.heap.size + 2 ≤ w1.heap.size := rl
  clear hb oc
  go_wp2_with fail
  go_loopg [13] n (fun g i wr => ∃ (k : Nat) (al : Option Addr) (capl : Nat), k ≤ n ∧ g = n - k ∧ i = .int .i64 (k : Int) ∧ Hid (OwnT wr (w1.heap.size + 1) (.slice al k capl) (s.tops.take k)) ∧ Hid (OwnC wr (w.heap.size + 2) (.slice ac nac cac) s.coms) ∧ Hid (Below w.heap.size w wr) ∧
    Hid (Blk wr (w.heap.size + 1) 25 [.slice none 0 0, .slice none 0 0]) ∧ Hid (Blk wr w1.heap.size 25 [.slice al k capl, .slice ac nac cac]))
  case atStart =>
    refine ⟨0, none, 0, Nat.zero_le _, rfl, rfl, OwnT.nil _ _, OC.out.alloc _, ?_, ?_, ?_⟩
    · show Below _ _ _
      repeat (first | (with_reducible exact HB.out) | (with_reducible exact Below.refl _ _) | (with_reducible apply Below.drew) | (with_reducible apply below_alloc) | ((with_reducible refine Below.alloc ?_ ?_ _); rotate_left; focus (first | (simp; done) | (simp; omega) | omega)) | ((with_reducible refine Below.setCell ?_ ?_ _); rotate_left; focus (first | (simp; done) | (simp; omega) | omega)))
    · show Blk _ _ _ _
      repeat (first | (with_reducible exact HR.out) | ((with_reducible apply Blk.new); focus (first | rfl | (simp; done) | (simp; omega))) | (with_reducible apply Blk.drew) | (with_reducible apply Blk.alloc) | (with_reducible apply Blk.set_) | ((with_reducible apply Blk.far); rotate_left; focus (first | (simp; done) | (simp; omega) | omega)))
    · show Blk _ _ _ _
      exact Blk.new rfl
  case round =>
    clear OC HB HP HR p0 p1 pz pl r0 r1 rz rl
    obtain ⟨k, al, capl, hk, rfl, rfl, OT, OC, HB, HR, HQ⟩ := hrel
    obtain ⟨q0, q1, qz⟩ := cells2 HQ.out
    obtain ⟨r0, r1, rz⟩ := cells2 HR.out
    have ql := HQ.out.lt
    have rl := HR.out.lt
    have hws : w.heap.size < wr.heap.size := by omega
    by_cases hlt : k < n
    · have hk0 : (0 : Int) ≤ (k : Int) := by omega
      have hk1 : (k : Int) < (n : Int) := by omega
      obtain ⟨g, off, ha, hat⟩ := HD.out (by omega)
      subst ha
      obtain ⟨ea, ecap, ⟨⟨⟨c0, c1⟩, c2⟩, c3⟩, hTT⟩ := (hat k hlt).keep HB.out
      have T := Lib.hid hTT
      have hg1 : g < wr.heap.size := World.block_lt_of_cell? wr _ c0
      obtain ⟨x, hx⟩ : ∃ x, x = s.tops.getD k default := ⟨_, rfl⟩
      rw [← hx] at c0 c1 c2 c3 T
      have hkl : k < s.tops.length := by rw [← HN.out]; exact hlt
      have HLX := Lib.hid (show x.ents.length ≤ 1000000 by rw [hx, getD_lt hkl]; exact HF2.out _ (List.getElem_mem hkl))
      have HTK := Lib.hid (show s.tops.take (k + 1) = s.tops.take k ++ [x] by rw [hx, List.take_succ_eq_append_getElem hkl, getD_lt hkl])
      have hlk : (s.tops.take k).length = k := by rw [List.length_take]; omega
      have HLK := Lib.hid hlk
      obtain ⟨pl, hpl, hrow, hent⟩ := OT.out
      rw [hlk] at hrow
      have HROW := Lib.hid hrow
      have HPL := Lib.hid hpl
      have HENT := Lib.hid hent
      clear hat hTT hx hlk hpl hrow hent
      go_wp2_with fail
      go_region_law (first | (go_simp; go_at_call 60; refine (topTwin_any (T.out.below (by repeat (first | (with_reducible exact Below.refl _ _) | (with_reducible exact Below.refl _ _) | (with_reducible apply Below.drew) | (with_reducible apply below_alloc) | ((with_reducible refine Below.alloc ?_ ?_ _); rotate_left; focus (first | (simp; done) | (simp; omega) | omega)) | ((with_reducible refine Below.setCell ?_ ?_ _); rotate_left; focus (first | (simp; done) | (simp; omega) | omega))))) HLX.out).mono ?_; rintro e w4 ⟨a4, c4, rfl, o4, hb⟩; have HQ4 := Lib.hid (Blk.step (Blk.drew (Blk.alloc HQ.out _)) hb); have HX4 := Lib.hid (Blk.step (Blk.drew (Blk.new (w := wr) (t := 72) (cs := [.int .i64 x.base, .int .i64 x.next, .int .i64 x.mark, .slice ea x.ents.length ecap]) rfl)) hb); have HW4 : Hid (Below wr.heap.size wr w4) := below_step (by repeat (first | (with_reducible exact Below.refl _ _) | (with_reducible exact Below.refl _ _) | (with_reducible apply Below.drew) | (with_reducible apply below_alloc) | ((with_reducible refine Below.alloc ?_ ?_ _); rotate_left; focus (first | (simp; done) | (simp; omega) | omega)) | ((with_reducible refine Below.setCell ?_ ?_ _); rotate_left; focus (first | (simp; done) | (simp; omega) | omega)))) hb; have O4 := Lib.hid (own_base (B' := w1.heap.size + 1) o4 (by simp; omega)); have hz4 : wr.heap.size < w4.heap.size := HX4.out.lt; have hy4 : w1.heap.size < w4.heap.size := HQ4.out.lt; obtain ⟨m0, m1, mz⟩ := cells2 HQ4.out; obtain ⟨n0, n1, n2, n3, nz⟩ := cells4 HX4.out; clear hb o4) | (refine step_append_lies _ rfl _ _ 22 rfl (w1.heap.size + 1) 72 i0 _ 4 48 Try.underlying22 hi hz0 hz1 hz2 rfl (by decide) _ k _ rfl ((ownsRow_keep HROW.out HW4.out).alloc _) ⟨w4.heap.size, 0, none⟩ 1 1 (topCells (.slice a4 x.ents.length c4, x)) rfl rfl (news_top _ x rfl) (topCells_one _ _ _ x) (by decide) (by unfold maxLen; omega) (by omega) (by simp; omega) _ rfl ?_; intro g5 cap5 w5 hown hgrow hat5 hlt5; have HQ5 := Lib.hid (Blk.grown (HQ4.out.alloc _) hgrow (fun e => Nat.lt_irrefl _ (HROW.out.lt _ e).1)); obtain ⟨m0, m1, mz⟩ := cells2 HQ5.out))
      all_goals
        have hB5 : w1.heap.size + 1 ≤ w4.heap.size + 1 := by omega
        have OT5 : Hid (OwnT w5 (w1.heap.size + 1) (.slice (some ⟨g5, 0, none⟩) (k + 1) cap5) (s.tops.take (k + 1))) := by
          rw [HTK.out]
          exact OwnT.snoc2 HPL.out ((ownsRow_keep HROW.out HW4.out).alloc _) (fun p hp => own_below (own_below (HENT.out p hp) HW4.out) ((Below.refl _ _).alloc (Nat.le_refl _) _)) (own_below O4.out ((Below.refl _ _).alloc (Nat.le_refl _) _)) hgrow hown HLK.out.symm
        have OC5 := Lib.hid (OwnC.grown (OwnC.alloc (show OwnC w4 _ _ _ from OC.out.keep HW4.out) _) hgrow ((ownsRow_keep HROW.out HW4.out).alloc _) rfl (by decide) (by decide))
        have HB5 : Hid (Below w.heap.size w w5) := Below.grown ((Below.step HB.out HW4.out (by omega)).alloc (by omega) _) hgrow (by simp; omega) (fun j hj => by have := (HROW.out.lt j hj).1; omega)
        have HR5 := Lib.hid (Blk.grown ((HR.out.step HW4.out).alloc _) hgrow (fun e => by have := (HROW.out.lt _ e).1; omega))
        have hl5 : w1.heap.size < w5.heap.size := HQ5.out.lt
        clear hown hgrow
        go_wp2_with fail
        go_roundg (n - (k + 1))
        case measure => omega
        case rel =>
         refine ⟨k + 1, some ⟨g5, 0, none⟩, cap5, by omega, rfl, by go_num, ?_, ?_, ?_, ?_, ?_⟩
         · show OwnT _ _ _ _
           exact OT5.out.far (by omega)
         · exact Lib.hid (OwnC.blk OC5.out HQ5.out (by decide) (by decide))
         · show Below _ _ _
           exact HB5.out.setCell (by show w.heap.size ≤ w1.heap.size; omega) _
         · show Blk _ _ _ _
           exact HR5.out.far (by omega) _
         · show Blk _ _ _ _
           exact HQ5.out.set_ 0 _
    · obtain rfl : k = n := by omega
      have hlt' : ¬ (k : Int) < (k : Int) := by omega
      go_wp2_with fail
      have e : s.tops.take k = s.tops := by rw [HN.out]; exact List.take_length
      have OT6 := OT.out
      rw [e] at OT6
      obtain ⟨t0, t1, -⟩ := cells2 ((HR.out.set_ 0 (.slice al k capl)).set_ 1 (.slice ac nac cac))
      refine bodyPost_ret (v := .agg #[.slice al k capl, .slice ac nac cac]) (by simp [results, Try.results24, go_sem, t0, t1]) rfl ⟨_, _, rfl, ⟨_, _, rfl, ?_, ?_⟩, ?_⟩
      · exact OwnT.le ((OT6.far (by omega)).far (by omega)) (by omega)
      · exact OwnRows.le (OwnC.far (OwnC.far OC.out (by omega)) (by omega)) (by omega)
      · exact (HB.out.setCell (by simp) _).setCell (by simp) _
end Go.Proofs.Ytblgmjbajnkcdaa
