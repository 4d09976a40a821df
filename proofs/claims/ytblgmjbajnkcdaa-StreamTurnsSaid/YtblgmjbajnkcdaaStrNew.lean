/-
  stream.New. No condition.
-/
import Derived.Test.YtblgmjbajnkcdaaStrTwin
import Derived.Test.YtblgmjbajnkcdaaBunJ
import Derived.Test.YtblgmjbajnkcdaaBunE
namespace Go.Proofs.Ytblgmjbajnkcdaa
open Go.RowKit

def newS : Str := ⟨List.replicate 4 Top.zero, newC⟩

set_option maxHeartbeats 8000000 in
set_option maxRecDepth 100000 in
theorem strNew_any (w : World) : Calls Try.prog 18 #[] w (StrEnd newS w) := by
  obtain ⟨i0, hi, hz0, hz1, hz2⟩ := info_parts info_top
  go_enter Try.func18, Try.ntmps18
  go_wp2_with fail
  refine Calls.mono (comNew_any _) ?_
  rintro e w1 ⟨vc, rfl, oc, hb⟩
  obtain ⟨ac, nac, cac, rfl⟩ := oc.reads.shape
  have HB : Hid (Below w.heap.size w _) := below_step (by repeat (first | (with_reducible exact Below.refl _ _) | (with_reducible exact Below.refl _ _) | (with_reducible apply Below.drew) | (with_reducible apply below_alloc) | ((with_reducible refine Below.alloc ?_ ?_ _); rotate_left; focus (first | (simp; done) | (simp; omega) | omega)) | ((with_reducible refine Below.setCell ?_ ?_ _); rotate_left; focus (first | (simp; done) | (simp; omega) | omega)))) hb
  have R : Blk _ (w.heap.size) _ _ := Blk.step (by repeat (first | ((with_reducible apply Blk.new); focus (first | rfl | (simp; done) | (simp; omega))) | (with_reducible apply Blk.drew) | (with_reducible apply Blk.alloc) | (with_reducible apply Blk.set_) | ((with_reducible apply Blk.far); rotate_left; focus (first | (simp; done) | (simp; omega) | omega)))) hb
  obtain ⟨r0, r1, rz⟩ := cells2 R
  have rl := Blk.lt R
  have HR := Lib.hid R
  clear R
  have OC : Hid (OwnC w1 (w.heap.size + 1) _ _) := oc.le (by simp)
  have s1 : w.heap.size + 1 ≤ w1.heap.size := rl
  clear hb oc
  go_wp2_with fail
  go_loopg [4] 4 (fun g i wr => ∃ (k : Nat) (al : Option Addr) (capl : Nat), k ≤ 4 ∧ g = 4 - k ∧ i = .int .i64 (k : Int) ∧ Hid (OwnT wr (w1.heap.size + 1) (.slice al k capl) (List.replicate k Top.zero)) ∧ Hid (OwnC wr (w.heap.size + 1) (.slice ac nac cac) newC) ∧ Hid (Below w.heap.size w wr) ∧
    Hid (Blk wr w.heap.size 25 [.slice none 0 0, .slice none 0 0]) ∧ Hid (Blk wr w1.heap.size 25 [.slice al k capl, .slice ac nac cac]))
  case atStart =>
    refine ⟨0, none, 0, Nat.zero_le _, rfl, rfl, OwnT.nil _ _, OC.out.alloc _, ?_, ?_, ?_⟩
    · show Below _ _ _
      repeat (first | (with_reducible exact HB.out) | (with_reducible exact Below.refl _ _) | (with_reducible apply Below.drew) | (with_reducible apply below_alloc) | ((with_reducible refine Below.alloc ?_ ?_ _); rotate_left; focus (first | (simp; done) | (simp; omega) | omega)) | ((with_reducible refine Below.setCell ?_ ?_ _); rotate_left; focus (first | (simp; done) | (simp; omega) | omega)))
    · show Blk _ _ _ _
      repeat (first | (with_reducible exact HR.out) | ((with_reducible apply Blk.new); focus (first | rfl | (simp; done) | (simp; omega))) | (with_reducible apply Blk.drew) | (with_reducible apply Blk.alloc) | (with_reducible apply Blk.set_) | ((with_reducible apply Blk.far); rotate_left; focus (first | (simp; done) | (simp; omega) | omega)))
    · show Blk _ _ _ _
      exact Blk.new rfl
  case round =>
    clear OC HB HR r0 r1 rz rl
    obtain ⟨k, al, capl, hk, rfl, rfl, OT, OC, HB, HR, HQ⟩ := hrel
    obtain ⟨q0, q1, qz⟩ := cells2 HQ.out
    obtain ⟨r0, r1, rz⟩ := cells2 HR.out
    have ql := HQ.out.lt
    have rl := HR.out.lt
    by_cases hlt : k < 4
    · have hk0 : (0 : Int) ≤ (k : Int) := by omega
      have hk1 : (k : Int) < 4 := by omega
      have hlk : (List.replicate k Top.zero).length = k := List.length_replicate
      have HLK := Lib.hid hlk
      obtain ⟨ps, hpl, hrow, hent⟩ := OT.out
      rw [hlk] at hrow
      have HROW := Lib.hid hrow
      have HPL := Lib.hid hpl
      have HENT := Lib.hid hent
      clear hlk hpl hrow hent
      go_wp2_with fail
      go_region_law (first | (go_simp; go_at_call 44; refine (new_any _).mono ?_; rintro e w4 ⟨rfl, hb⟩; have HQ4 := Lib.hid (Blk.step (Blk.drew HQ.out) hb); have HW4 : Hid (Below wr.heap.size wr w4) := below_step (by repeat (first | (with_reducible exact Below.refl _ _) | (with_reducible exact Below.refl _ _) | (with_reducible apply Below.drew) | (with_reducible apply below_alloc) | ((with_reducible refine Below.alloc ?_ ?_ _); rotate_left; focus (first | (simp; done) | (simp; omega) | omega)) | ((with_reducible refine Below.setCell ?_ ?_ _); rotate_left; focus (first | (simp; done) | (simp; omega) | omega)))) hb; have hz4 : wr.heap.size ≤ w4.heap.size := HW4.out.size; have hy4 : w1.heap.size < w4.heap.size := HQ4.out.lt; obtain ⟨m0, m1, mz⟩ := cells2 HQ4.out; clear hb) | (refine step_append_lies _ rfl _ _ 22 rfl (w1.heap.size + 1) 72 i0 _ 4 48 Try.underlying22 hi hz0 hz1 hz2 rfl (by decide) _ k _ rfl ((ownsRow_keep HROW.out HW4.out).alloc _) ⟨w4.heap.size, 0, none⟩ 1 1 (topCells (.slice none 0 0, Top.zero)) rfl rfl (news_top _ Top.zero rfl) (topCells_one _ _ _ Top.zero) (by decide) (by unfold maxLen; omega) (by omega) (by simp; omega) _ rfl ?_; intro g5 cap5 w5 hown hgrow hat5 hlt5; have HQ5 := Lib.hid (Blk.grown (HQ4.out.alloc _) hgrow (fun e => Nat.lt_irrefl _ (HROW.out.lt _ e).1)); obtain ⟨m0, m1, mz⟩ := cells2 HQ5.out))
      all_goals
        have OT5 : Hid (OwnT w5 (w1.heap.size + 1) (.slice (some ⟨g5, 0, none⟩) (k + 1) cap5) (List.replicate (k + 1) Top.zero)) := by
          rw [List.replicate_succ']
          exact OwnT.snoc2 HPL.out ((ownsRow_keep HROW.out HW4.out).alloc _) (fun p hp => own_below (own_below (HENT.out p hp) HW4.out) ((Below.refl _ _).alloc (Nat.le_refl _) _)) (World.ownsRow_nil _ _ _ _) hgrow hown HLK.out.symm
        have OC5 := Lib.hid (OwnC.grown (OwnC.alloc (show OwnC w4 _ _ _ from OC.out.keep HW4.out) _) hgrow ((ownsRow_keep HROW.out HW4.out).alloc _) rfl (by decide) (by decide))
        have HB5 : Hid (Below w.heap.size w w5) := Below.grown ((Below.step HB.out HW4.out (by omega)).alloc (by omega) _) hgrow (by simp; omega) (fun j hj => by have := (HROW.out.lt j hj).1; omega)
        have HR5 := Lib.hid (Blk.grown ((HR.out.step HW4.out).alloc _) hgrow (fun e => by have := (HROW.out.lt _ e).1; omega))
        have hl5 : w1.heap.size < w5.heap.size := HQ5.out.lt
        clear hown hgrow
        go_wp2_with fail
        go_roundg (4 - (k + 1))
        case measure => omega
        case rel =>
         refine ⟨k + 1, some ⟨g5, 0, none⟩, cap5, by omega, rfl, by go_num, ?_, ?_, ?_, ?_, ?_⟩
         · show OwnT _ _ _ _
           exact OT5.out.far (by omega)
         · exact Lib.hid (OwnC.blk OC5.out HQ5.out (by decide) (by decide))
         · show Below _ _ _
           exact HB5.out.setCell (by show w.heap.size ≤ w1.heap.size; omega) _
         · show Blk _ _ _ _
           exact HR5.out.far (by omega) _
         · show Blk _ _ _ _
           exact HQ5.out.set_ 0 _
    · obtain rfl : k = 4 := by omega
      go_wp2_with fail
      obtain ⟨t0, t1, -⟩ := cells2 ((HR.out.set_ 0 (.slice al 4 capl)).set_ 1 (.slice ac nac cac))
      refine bodyPost_ret (v := .agg #[.slice al 4 capl, .slice ac nac cac]) (by simp [results, Try.results18, go_sem, t0, t1]) rfl ⟨_, _, rfl, ⟨_, _, rfl, ?_, ?_⟩, ?_⟩
      · exact OwnT.le ((OT.out.far (by omega)).far (by omega)) (by omega)
      · exact OwnRows.le (OwnC.far (OwnC.far OC.out (by omega)) (by omega)) (by omega)
      · exact (HB.out.setCell (by simp) _).setCell (by simp) _
end Go.Proofs.Ytblgmjbajnkcdaa
