/-
  The statements' own topic of five messages, and that it is as the chapter says. No condition.
-/
import Derived.Test.YtolgkadoplalnaaTwo17
import Derived.Test.YtolgkadoplalnaaKeepLaw
import Derived.Test.YtolgkadoplalnaaTrimY18
import Derived.Deep.LoopGhost
import Derived.Lib.MinMax
namespace Go.Proofs.Ytolgkadoplalnaa
open Go.RowKit

def fiveN (k : Nat) : Top := ⟨0, k, 0, (List.range k).map fun (i : Nat) => (⟨(i : Int), (i : Int), ⟨#[107]⟩, ⟨#[118]⟩⟩ : Ent)⟩
theorem five_may0 : (fiveN 0).may := by decide +kernel
theorem five_may1 : (fiveN 1).may := by decide +kernel
theorem five_may2 : (fiveN 2).may := by decide +kernel
theorem five_may3 : (fiveN 3).may := by decide +kernel
theorem five_may4 : (fiveN 4).may := by decide +kernel
theorem five_may5 : (fiveN 5).may := by decide +kernel
theorem five_add {k : Nat} (h : k < 5) : (fiveN k).may ∧ addP (fiveN k) k ⟨#[107]⟩ ⟨#[118]⟩ = (fiveN (k + 1), (k : Int), 0) := by
  match k, h with
  | 0, _ => exact ⟨five_may0, by rw [addP, if_pos five_may0]; rfl⟩
  | 1, _ => exact ⟨five_may1, by rw [addP, if_pos five_may1]; rfl⟩
  | 2, _ => exact ⟨five_may2, by rw [addP, if_pos five_may2]; rfl⟩
  | 3, _ => exact ⟨five_may3, by rw [addP, if_pos five_may3]; rfl⟩
  | 4, _ => exact ⟨five_may4, by rw [addP, if_pos five_may4]; rfl⟩

set_option maxHeartbeats 2000000 in
set_option maxRecDepth 100000 in
theorem five_any (w : World) : Calls Try.prog 40 #[] w (TopEndB (fiveN 5) w) := by
  go_enter Try.func40, Try.ntmps40
  go_wp2_with fail
  refine Calls.mono (new_any _) ?_
  rintro e w1 ⟨rfl, hb⟩
  have HB : Hid (Below w.heap.size w _) := below_step (by repeat (first | (with_reducible exact Below.refl _ _) | (with_reducible exact Below.refl _ _) | (with_reducible apply Below.drew) | (with_reducible apply below_alloc) | ((with_reducible refine Below.alloc ?_ ?_ _); rotate_left; focus (first | (simp; done) | (simp; omega) | omega)) | ((with_reducible refine Below.setCell ?_ ?_ _); rotate_left; focus (first | (simp; done) | (simp; omega) | omega)))) hb
  have R : Blk _ (w.heap.size) _ _ := Blk.step (by repeat (first | ((with_reducible apply Blk.new); focus (first | rfl | (simp; done) | (simp; omega))) | (with_reducible apply Blk.drew) | (with_reducible apply Blk.alloc) | (with_reducible apply Blk.set_) | ((with_reducible apply Blk.far); rotate_left; focus (first | (simp; done) | (simp; omega) | omega)))) hb
  obtain ⟨r0, r1, r2, r3, rz⟩ := cells4 R
  have rl := Blk.lt R
  have HR := Lib.hid R
  clear R
  have s01 : w.heap.size < w1.heap.size := rl
  clear hb rl
  go_wp2_with fail
  go_loopg [3, 4] 5 (fun g ok i wr => ∃ (k : Nat) (ad : Option Addr) (cp : Nat), k ≤ 5 ∧ g = 5 - k ∧ i = .int .i64 (k : Int) ∧ ok = .bool true ∧ Hid (OwnE wr (w1.heap.size + 1) (.slice ad (fiveN k).ents.length cp) (fiveN k).ents) ∧ Hid (Below w.heap.size w wr) ∧
    Hid (Blk wr w.heap.size 24 [.int .i64 0, .int .i64 0, .int .i64 0, .slice none 0 0]) ∧
    Hid (Blk wr w1.heap.size 24 [.int .i64 (fiveN k).base, .int .i64 (fiveN k).next, .int .i64 (fiveN k).mark, .slice ad (fiveN k).ents.length cp]))
  case atStart =>
    refine ⟨0, none, 0, by omega, rfl, rfl, rfl, World.ownsRow_nil _ _ _ _, ?_, ?_, ?_⟩
    · show Below _ _ _
      repeat (first | (with_reducible exact HB.out) | (with_reducible exact Below.refl _ _) | (with_reducible apply Below.drew) | (with_reducible apply below_alloc) | ((with_reducible refine Below.alloc ?_ ?_ _); rotate_left; focus (first | (simp; done) | (simp; omega) | omega)) | ((with_reducible refine Below.setCell ?_ ?_ _); rotate_left; focus (first | (simp; done) | (simp; omega) | omega)))
    · show Blk _ _ _ _
      repeat (first | (with_reducible exact HR.out) | ((with_reducible apply Blk.new); focus (first | rfl | (simp; done) | (simp; omega))) | (with_reducible apply Blk.drew) | (with_reducible apply Blk.alloc) | (with_reducible apply Blk.set_) | ((with_reducible apply Blk.far); rotate_left; focus (first | (simp; done) | (simp; omega) | omega)))
    · show Blk _ _ _ _
      exact Blk.new rfl
  case round =>
    clear HB HR r0 r1 r2 r3 rz
    obtain ⟨k, ad, cp, hk, rfl, rfl, rfl, OT, HB, HR, HS⟩ := hrel
    obtain ⟨wo, rfl⟩ : ∃ wo : World, wo = wr := ⟨_, rfl⟩
    obtain ⟨s0, s1, s2, s3, sz⟩ := cells4 HS.out
    obtain ⟨r0, r1, r2, r3, rz⟩ := cells4 HR.out
    have sl := HS.out.lt
    have rl := HR.out.lt
    by_cases hlt : k < 5
    · have hk1 : (k : Int) < 5 := by omega
      obtain ⟨hm, ha⟩ := five_add hlt
      have HKM := Lib.hid (keys_of_may hm)
      have HAD := Lib.hid ha
      have ek : ((k : Int) == (k : Int)) = true := by simp
      have so : w1.heap.size + 1 ≤ wo.heap.size := sl
      clear hm ha
      go_wp2_with fail
      refine Calls.mono (add_any (k : Int) ⟨#[107]⟩ ⟨#[118]⟩ (own_top OT.out) HKM.out HAD.out) ?_
      rintro e w2 ⟨ad2, cp2, rfl, ow2, hb⟩
      replace HB : Hid (Below w.heap.size w _) := below_step (by repeat (first | (with_reducible exact HB.out) | (with_reducible exact Below.refl _ _) | (with_reducible apply Below.drew) | (with_reducible apply below_alloc) | ((with_reducible refine Below.alloc ?_ ?_ _); rotate_left; focus (first | (simp; done) | (simp; omega) | omega)) | ((with_reducible refine Below.setCell ?_ ?_ _); rotate_left; focus (first | (simp; done) | (simp; omega) | omega)))) hb
      clear s0 s1 s2 s3 sz sl
      replace HS : Hid (Blk _ (w1.heap.size) _ _) := Blk.step (by repeat (first | (with_reducible exact HS.out) | ((with_reducible apply Blk.new); focus (first | rfl | (simp; done) | (simp; omega))) | (with_reducible apply Blk.drew) | (with_reducible apply Blk.alloc) | (with_reducible apply Blk.set_) | ((with_reducible apply Blk.far); rotate_left; focus (first | (simp; done) | (simp; omega) | omega)))) hb
      obtain ⟨s0, s1, s2, s3, sz⟩ := cells4 HS.out
      have sl := Blk.lt HS.out
      clear r0 r1 r2 r3 rz rl
      replace HR : Hid (Blk _ (w.heap.size) _ _) := Blk.step (by repeat (first | (with_reducible exact HR.out) | ((with_reducible apply Blk.new); focus (first | rfl | (simp; done) | (simp; omega))) | (with_reducible apply Blk.drew) | (with_reducible apply Blk.alloc) | (with_reducible apply Blk.set_) | ((with_reducible apply Blk.far); rotate_left; focus (first | (simp; done) | (simp; omega) | omega)))) hb
      obtain ⟨r0, r1, r2, r3, rz⟩ := cells4 HR.out
      have rl := Blk.lt HR.out
      have O2 : Hid (OwnE w2 (w1.heap.size + 1) _ _) := own_base ow2 so
      have s12 : w1.heap.size < w2.heap.size := sl
      clear hb ow2
      go_wp2_with fail
      go_roundg (5 - (k + 1))
      case measure => omega
      case rel =>
        refine ⟨k + 1, ad2, cp2, by omega, rfl, by go_num, rfl, ?_, ?_, ?_, ?_⟩
        · show OwnE _ _ _ _
          repeat (first | (with_reducible exact O2.out) | (with_reducible apply own_drew) | (with_reducible apply own_alloc) | ((with_reducible apply own_set); rotate_left; focus (first | (simp; done) | (simp; omega) | omega)))
        · show Below _ _ _
          repeat (first | (with_reducible exact HB.out) | (with_reducible exact Below.refl _ _) | (with_reducible apply Below.drew) | (with_reducible apply below_alloc) | ((with_reducible refine Below.alloc ?_ ?_ _); rotate_left; focus (first | (simp; done) | (simp; omega) | omega)) | ((with_reducible refine Below.setCell ?_ ?_ _); rotate_left; focus (first | (simp; done) | (simp; omega) | omega)))
        · show Blk _ _ _ _
          repeat (first | (with_reducible exact HR.out) | ((with_reducible apply Blk.new); focus (first | rfl | (simp; done) | (simp; omega))) | (with_reducible apply Blk.drew) | (with_reducible apply Blk.alloc) | (with_reducible apply Blk.set_) | ((with_reducible apply Blk.far); rotate_left; focus (first | (simp; done) | (simp; omega) | omega)))
        · show Blk _ _ _ _
          exact Blk.alloc ((((HS.out.set_ 0 _).set_ 1 _).set_ 2 _).set_ 3 _) _
    · obtain rfl : k = 5 := by omega
      go_wp2_with fail
      refine bodyPost_ret (v := .tuple #[.agg #[.int .i64 (fiveN 5).base, .int .i64 (fiveN 5).next, .int .i64 (fiveN 5).mark, .slice ad (fiveN 5).ents.length cp], .bool true]) (by simp [results, Try.results40, go_sem, r0, r1, r2, r3]) rfl ⟨ad, cp, rfl, ?_, ?_⟩
      · refine own_base (B := w1.heap.size + 1) ?_ (by omega)
        repeat (first | (with_reducible exact OT.out) | (with_reducible apply own_drew) | (with_reducible apply own_alloc) | ((with_reducible apply own_set); rotate_left; focus (first | (simp; done) | (simp; omega) | omega)))
      · repeat (first | (with_reducible exact HB.out) | (with_reducible exact Below.refl _ _) | (with_reducible apply Below.drew) | (with_reducible apply below_alloc) | ((with_reducible refine Below.alloc ?_ ?_ _); rotate_left; focus (first | (simp; done) | (simp; omega) | omega)) | ((with_reducible refine Below.setCell ?_ ?_ _); rotate_left; focus (first | (simp; done) | (simp; omega) | omega)))

def fiveA : Top := ⟨2, 5, 0, [⟨2, 2, ⟨#[107]⟩, ⟨#[118]⟩⟩, ⟨3, 3, ⟨#[107]⟩, ⟨#[118]⟩⟩, ⟨4, 4, ⟨#[107]⟩, ⟨#[118]⟩⟩]⟩
theorem fiveA_may : fiveA.may := by decide +kernel
theorem five_trim2 : trimP (fiveN 5) 2 = (fiveA, 0) := by rw [trimP_yes five_may5 (by omega)]; rfl
theorem fiveA_1 : fetchP fiveA 1 = (default, 171) := by rw [fetchP, if_pos fiveA_may]; rfl
theorem fiveA_2 : fetchP fiveA 2 = (⟨2, 2, ⟨#[107]⟩, ⟨#[118]⟩⟩, 0) := by rw [fetchP, if_pos fiveA_may]; rfl

set_option maxHeartbeats 1000000 in
set_option maxRecDepth 100000 in
theorem alive18_any (w : World) : Calls Try.prog 41 #[] w fun e w' => e = .returned (.bool true) ∧ Below w.heap.size w w' := by
  have K5 := Lib.hid (keys_of_may five_may5)
  have KA := Lib.hid (keys_of_may fiveA_may)
  go_enter Try.func41, Try.ntmps41
  go_wp2_with fail
  refine Calls.mono (five_any _) ?_
  rintro e w1 ⟨ad1, cp1, rfl, ow1, hb⟩
  have HB : Hid (Below w.heap.size w _) := below_step (by repeat (first | (with_reducible exact Below.refl _ _) | (with_reducible exact Below.refl _ _) | (with_reducible apply Below.drew) | (with_reducible apply below_alloc) | ((with_reducible refine Below.alloc ?_ ?_ _); rotate_left; focus (first | (simp; done) | (simp; omega) | omega)) | ((with_reducible refine Below.setCell ?_ ?_ _); rotate_left; focus (first | (simp; done) | (simp; omega) | omega)))) hb
  have T := Lib.hid (own_top ow1)
  clear hb ow1
  go_wp2_with fail
  refine Calls.mono (trim_any 2 ?_ K5.out five_trim2) ?_
  · exact T.out.below (by repeat (first | (with_reducible exact Below.refl _ _) | (with_reducible exact Below.refl _ _) | (with_reducible apply Below.drew) | (with_reducible apply below_alloc) | ((with_reducible refine Below.alloc ?_ ?_ _); rotate_left; focus (first | (simp; done) | (simp; omega) | omega)) | ((with_reducible refine Below.setCell ?_ ?_ _); rotate_left; focus (first | (simp; done) | (simp; omega) | omega))))
  rintro e w2 ⟨ad2, cp2, rfl, ow2, hb⟩
  replace HB : Hid (Below w.heap.size w _) := below_step (by repeat (first | (with_reducible exact HB.out) | (with_reducible exact Below.refl _ _) | (with_reducible apply Below.drew) | (with_reducible apply below_alloc) | ((with_reducible refine Below.alloc ?_ ?_ _); rotate_left; focus (first | (simp; done) | (simp; omega) | omega)) | ((with_reducible refine Below.setCell ?_ ?_ _); rotate_left; focus (first | (simp; done) | (simp; omega) | omega)))) hb
  have TA := Lib.hid (own_top ow2)
  clear hb ow2
  go_wp2_with fail
  refine Calls.mono (fetch_any 1 ?_ KA.out fiveA_1) ?_
  · exact TA.out.below (by repeat (first | (with_reducible exact Below.refl _ _) | (with_reducible exact Below.refl _ _) | (with_reducible apply Below.drew) | (with_reducible apply below_alloc) | ((with_reducible refine Below.alloc ?_ ?_ _); rotate_left; focus (first | (simp; done) | (simp; omega) | omega)) | ((with_reducible refine Below.setCell ?_ ?_ _); rotate_left; focus (first | (simp; done) | (simp; omega) | omega))))
  rintro e w3 ⟨rfl, hb⟩
  replace HB : Hid (Below w.heap.size w _) := below_step (by repeat (first | (with_reducible exact HB.out) | (with_reducible exact Below.refl _ _) | (with_reducible apply Below.drew) | (with_reducible apply below_alloc) | ((with_reducible refine Below.alloc ?_ ?_ _); rotate_left; focus (first | (simp; done) | (simp; omega) | omega)) | ((with_reducible refine Below.setCell ?_ ?_ _); rotate_left; focus (first | (simp; done) | (simp; omega) | omega)))) hb
  replace TA : Hid (TopR _ _ _) := topR_step TA.out (by repeat (first | (with_reducible exact Below.refl _ _) | (with_reducible exact Below.refl _ _) | (with_reducible apply Below.drew) | (with_reducible apply below_alloc) | ((with_reducible refine Below.alloc ?_ ?_ _); rotate_left; focus (first | (simp; done) | (simp; omega) | omega)) | ((with_reducible refine Below.setCell ?_ ?_ _); rotate_left; focus (first | (simp; done) | (simp; omega) | omega)))) hb
  have A : Blk _ (w2.heap.size) _ _ := Blk.step (by repeat (first | ((with_reducible apply Blk.new); focus (first | rfl | (simp; done) | (simp; omega))) | (with_reducible apply Blk.drew) | (with_reducible apply Blk.alloc) | (with_reducible apply Blk.set_) | ((with_reducible apply Blk.far); rotate_left; focus (first | (simp; done) | (simp; omega) | omega)))) hb
  obtain ⟨a0, a1, a2, a3, az⟩ := cells4 A
  have al := Blk.lt A
  have HA := Lib.hid A
  clear A
  clear hb
  go_wp2_with fail
  refine Calls.mono (fetch_any 2 ?_ KA.out fiveA_2) ?_
  · exact TA.out.below (by repeat (first | (with_reducible exact Below.refl _ _) | (with_reducible exact Below.refl _ _) | (with_reducible apply Below.drew) | (with_reducible apply below_alloc) | ((with_reducible refine Below.alloc ?_ ?_ _); rotate_left; focus (first | (simp; done) | (simp; omega) | omega)) | ((with_reducible refine Below.setCell ?_ ?_ _); rotate_left; focus (first | (simp; done) | (simp; omega) | omega))))
  rintro e w4 ⟨rfl, hb⟩
  replace HB : Hid (Below w.heap.size w _) := below_step (by repeat (first | (with_reducible exact HB.out) | (with_reducible exact Below.refl _ _) | (with_reducible apply Below.drew) | (with_reducible apply below_alloc) | ((with_reducible refine Below.alloc ?_ ?_ _); rotate_left; focus (first | (simp; done) | (simp; omega) | omega)) | ((with_reducible refine Below.setCell ?_ ?_ _); rotate_left; focus (first | (simp; done) | (simp; omega) | omega)))) hb
  clear hb
  go_wp2_with fail
  go_ret
  refine ⟨rfl, ?_⟩
  repeat (first | (with_reducible exact HB.out) | (with_reducible exact Below.refl _ _) | (with_reducible apply Below.drew) | (with_reducible apply below_alloc) | ((with_reducible refine Below.alloc ?_ ?_ _); rotate_left; focus (first | (simp; done) | (simp; omega) | omega)) | ((with_reducible refine Below.setCell ?_ ?_ _); rotate_left; focus (first | (simp; done) | (simp; omega) | omega)))
end Go.Proofs.Ytolgkadoplalnaa
