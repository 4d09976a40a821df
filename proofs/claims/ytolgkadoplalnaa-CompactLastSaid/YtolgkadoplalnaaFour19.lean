/-
  The statements' own topic of four messages, and that it is as the chapter says. No condition.
-/
import Derived.Test.YtolgkadoplalnaaTwo17
import Derived.Test.YtolgkadoplalnaaCompact19
import Derived.Test.YtolgkadoplalnaaComPL
import Derived.Deep.LoopGhost
import Derived.Deep.RegionHeld3
import Derived.Laws.Strings2
namespace Go.Proofs.Ytolgkadoplalnaa
open Go.RowKit

def abac : ByteArray := ⟨#[97, 98, 97, 99]⟩
def fourN (k : Nat) : Top := ⟨0, k, 0, (List.range k).map fun (i : Nat) => (⟨(i : Int), (i : Int), abac.extract i (i + 1), ⟨#[118]⟩⟩ : Ent)⟩
theorem four_may0 : (fourN 0).may := by decide +kernel
theorem four_may1 : (fourN 1).may := by decide +kernel
theorem four_may2 : (fourN 2).may := by decide +kernel
theorem four_may3 : (fourN 3).may := by decide +kernel
theorem four_may4 : (fourN 4).may := by decide +kernel
theorem four_add {k : Nat} (h : k < 4) : (fourN k).may ∧ addP (fourN k) k (abac.extract k (k + 1)) ⟨#[118]⟩ = (fourN (k + 1), (k : Int), 0) := by
  match k, h with
  | 0, _ => exact ⟨four_may0, by rw [addP, if_pos four_may0]; rfl⟩
  | 1, _ => exact ⟨four_may1, by rw [addP, if_pos four_may1]; rfl⟩
  | 2, _ => exact ⟨four_may2, by rw [addP, if_pos four_may2]; rfl⟩
  | 3, _ => exact ⟨four_may3, by rw [addP, if_pos four_may3]; rfl⟩

set_option maxHeartbeats 2000000 in
set_option maxRecDepth 100000 in
theorem four_any (w : World) : Calls Try.prog 27 #[] w (TopEndB (fourN 4) w) := by
  go_enter Try.func27, Try.ntmps27
  go_wp2_with fail
  refine Calls.mono (new_any _) ?_
  rintro e w1 ⟨rfl, hb⟩
  have HB : Hid (Below w.heap.size w _) := below_step (by repeat (first | (with_reducible exact Below.refl _ _) | (with_reducible exact Below.refl _ _) | (with_reducible apply Below.drew) | (with_reducible apply below_alloc) | ((with_reducible refine Below.alloc ?_ ?_ _); rotate_left; focus (first | (simp; done) | (simp; omega) | omega)) | ((with_reducible refine Below.setCell ?_ ?_ _); rotate_left; focus (first | (simp; done) | (simp; omega) | omega)))) hb
  have R : Blk _ (w.heap.size) _ _ := Blk.step (by repeat (first | ((with_reducible apply Blk.new); focus (first | rfl | (simp; done) | (simp; omega))) | (with_reducible apply Blk.drew) | (with_reducible apply Blk.alloc) | (with_reducible apply Blk.set_) | ((with_reducible apply Blk.far); rotate_left; focus (first | (simp; done) | (simp; omega) | omega)))) hb
  obtain ⟨r0, r1, r2, r3, rz⟩ := cells4 R
  have rl := Blk.lt R
  have HR := Lib.hid R
  clear R
  have s01 : w.heap.size < w1.heap.size := rl
  clear hb rl
  go_wp2_with fail
  go_loopg [3, 4] 4 (fun g ok i wr => ∃ (k : Nat) (ad : Option Addr) (cp : Nat), k ≤ 4 ∧ g = 4 - k ∧ i = .int .i64 (k : Int) ∧ ok = .bool true ∧ Hid (OwnE wr (w1.heap.size + 1) (.slice ad (fourN k).ents.length cp) (fourN k).ents) ∧ Hid (Below w.heap.size w wr) ∧
    Hid (Blk wr w.heap.size 24 [.int .i64 0, .int .i64 0, .int .i64 0, .slice none 0 0]) ∧
    Hid (Blk wr w1.heap.size 24 [.int .i64 (fourN k).base, .int .i64 (fourN k).next, .int .i64 (fourN k).mark, .slice ad (fourN k).ents.length cp]))
  case atStart =>
    refine ⟨0, none, 0, by omega, rfl, rfl, rfl, World.ownsRow_nil _ _ _ _, ?_, ?_, ?_⟩
    · show Below _ _ _
      repeat (first | (with_reducible exact HB.out) | (with_reducible exact Below.refl _ _) | (with_reducible apply Below.drew) | (with_reducible apply below_alloc) | ((with_reducible refine Below.alloc ?_ ?_ _); rotate_left; focus (first | (simp; done) | (simp; omega) | omega)) | ((with_reducible refine Below.setCell ?_ ?_ _); rotate_left; focus (first | (simp; done) | (simp; omega) | omega)))
    · show Blk _ _ _ _
      repeat (first | (with_reducible exact HR.out) | ((with_reducible apply Blk.new); focus (first | rfl | (simp; done) | (simp; omega))) | (with_reducible apply Blk.drew) | (with_reducible apply Blk.alloc) | (with_reducible apply Blk.set_) | ((with_reducible apply Blk.far); rotate_left; focus (first | (simp; done) | (simp; omega) | omega)))
    · show Blk _ _ _ _
      exact Blk.new rfl
  case round =>
    clear HB HR r0 r1 r2 r3 rz
    obtain ⟨k, ad, cp, hk, rfl, rfl, rfl, OT, HB, HR, HS⟩ := hrel
    obtain ⟨wo, rfl⟩ : ∃ wo : World, wo = wr := ⟨_, rfl⟩
    obtain ⟨s0, s1, s2, s3, sz⟩ := cells4 HS.out
    obtain ⟨r0, r1, r2, r3, rz⟩ := cells4 HR.out
    have sl := HS.out.lt
    have rl := HR.out.lt
    by_cases hlt : k < 4
    · have hk1 : (k : Int) < 4 := by omega
      obtain ⟨hm, ha⟩ := four_add hlt
      have HKM := Lib.hid (keys_of_may hm)
      have HAD := Lib.hid ha
      have ek : ((k : Int) == (k : Int)) = true := by simp
      have so : w1.heap.size + 1 ≤ wo.heap.size := sl
      clear hm ha
      go_wp2_with fail
      have hk0 : (0 : Int) ≤ (k : Int) := by omega
      have hk2 : (k : Int) + 1 ≤ 4 := by omega
      have hsl : ∀ w, (Instr.slice 9 (.string ⟨#[97, 98, 97, 99]⟩) (some (.int .i64 (k : Int))) (some (.int .i64 ((k : Int) + 1))) none).run Try.prog w = .ok (.string (abac.extract k (k + 1))) w := fun w => by
        rw [run_slice_string (h := Try.underlying9) (h0 := hk0) (h1 := by omega) (h2 := by show ((k : Int) + 1) ≤ ((4 : Nat) : Int); omega)]
        rw [show ((k : Int)).toNat = k by omega, show ((k : Int) + 1).toNat = k + 1 by omega]
        rfl
      have hwr : IntKind.i64.wrap ((k : Int) + 1) = (k : Int) + 1 := IntWalk.i64_in _ (by omega)
      go_region_held3 (fun W => (W.cell? ⟨w1.heap.size, 0, none⟩ = some (.int .i64 (fourN k).base) ∧ W.cell? ⟨w1.heap.size, 1, none⟩ = some (.int .i64 (fourN k).next)) ∧ (W.cell? ⟨w1.heap.size, 2, none⟩ = some (.int .i64 (fourN k).mark) ∧ W.cell? ⟨w1.heap.size, 3, none⟩ = some (.slice ad (fourN k).ents.length cp)))
        (first | (with_reducible exact ⟨⟨s0, s1⟩, s2, s3⟩) | (with_reducible exact ⟨⟨q0, q1⟩, q2, q3⟩) | (with_reducible exact ⟨⟨F0 _ _ _ _, F1 _ _ _ _⟩, F2 _ _ _ _, F3 _ _ _ _⟩) | go_keep)
        (first | (go_at_call 32; refine (add_any (k : Int) (abac.extract k (k + 1)) ⟨#[118]⟩ (own_top (own_drew OT.out)) HKM.out HAD.out).mono ?_; rintro e w2 ⟨ad2, cp2, rfl, ow2, hb⟩; have HS5 := Lib.hid (Blk.step (Blk.drew HS.out) hb); have HR5 := Lib.hid (Blk.step (Blk.drew HR.out) hb); have HB5 := below_step (Below.drew HB.out) hb; obtain ⟨q0, q1, q2, q3, qz⟩ := cells4 HS5.out; have ql := Blk.lt HS5.out; have O5 := Lib.hid (own_base (B' := w1.heap.size + 1) ow2 so); clear ow2 hb) | (go_at_call 32; refine (add_any (k : Int) (abac.extract k (k + 1)) ⟨#[118]⟩ (own_top (own_drew (own_alloc OT.out))) HKM.out HAD.out).mono ?_; rintro e w2 ⟨ad2, cp2, rfl, ow2, hb⟩; have HS5 := Lib.hid (Blk.step (Blk.drew (Blk.alloc HS.out _)) hb); have HR5 := Lib.hid (Blk.step (Blk.drew (Blk.alloc HR.out _)) hb); have HB5 := below_step (Below.drew (below_alloc HB.out)) hb; have HY5 := Lib.hid (Blk.step (Blk.drew (Blk.new (w := wo) (t := 24) (cs := [.int .i64 0, .int .i64 0, .int .i64 0, .slice none 0 0]) rfl)) hb); obtain ⟨q0, q1, q2, q3, qz⟩ := cells4 HS5.out; obtain ⟨y0, y1, y2, y3, yz⟩ := cells4 HY5.out; have ql := Blk.lt HS5.out; have F0 : ∀ u0 u1 u2 u3 : Value, ((((w2.setCell ⟨wo.heap.size, 0, none⟩ u0).setCell ⟨wo.heap.size, 1, none⟩ u1).setCell ⟨wo.heap.size, 2, none⟩ u2).setCell ⟨wo.heap.size, 3, none⟩ u3).cell? ⟨w1.heap.size, 0, none⟩ = some (.int .i64 (fourN k).base) := fun u0 u1 u2 u3 => ((((HS5.out.far (Nat.ne_of_lt sl) u0).far (Nat.ne_of_lt sl) u1).far (Nat.ne_of_lt sl) u2).far (Nat.ne_of_lt sl) u3).cell 0; have F1 : ∀ u0 u1 u2 u3 : Value, ((((w2.setCell ⟨wo.heap.size, 0, none⟩ u0).setCell ⟨wo.heap.size, 1, none⟩ u1).setCell ⟨wo.heap.size, 2, none⟩ u2).setCell ⟨wo.heap.size, 3, none⟩ u3).cell? ⟨w1.heap.size, 1, none⟩ = some (.int .i64 (fourN k).next) := fun u0 u1 u2 u3 => ((((HS5.out.far (Nat.ne_of_lt sl) u0).far (Nat.ne_of_lt sl) u1).far (Nat.ne_of_lt sl) u2).far (Nat.ne_of_lt sl) u3).cell 1; have F2 : ∀ u0 u1 u2 u3 : Value, ((((w2.setCell ⟨wo.heap.size, 0, none⟩ u0).setCell ⟨wo.heap.size, 1, none⟩ u1).setCell ⟨wo.heap.size, 2, none⟩ u2).setCell ⟨wo.heap.size, 3, none⟩ u3).cell? ⟨w1.heap.size, 2, none⟩ = some (.int .i64 (fourN k).mark) := fun u0 u1 u2 u3 => ((((HS5.out.far (Nat.ne_of_lt sl) u0).far (Nat.ne_of_lt sl) u1).far (Nat.ne_of_lt sl) u2).far (Nat.ne_of_lt sl) u3).cell 2; have F3 : ∀ u0 u1 u2 u3 : Value, ((((w2.setCell ⟨wo.heap.size, 0, none⟩ u0).setCell ⟨wo.heap.size, 1, none⟩ u1).setCell ⟨wo.heap.size, 2, none⟩ u2).setCell ⟨wo.heap.size, 3, none⟩ u3).cell? ⟨w1.heap.size, 3, none⟩ = some (.slice ad (fourN k).ents.length cp) := fun u0 u1 u2 u3 => ((((HS5.out.far (Nat.ne_of_lt sl) u0).far (Nat.ne_of_lt sl) u1).far (Nat.ne_of_lt sl) u2).far (Nat.ne_of_lt sl) u3).cell 3; have O5 := Lib.hid (own_base (B' := wo.heap.size + 1) ow2 (by simp)); clear ow2 hb))
      · have hql : w1.heap.size < w2.heap.size := ql
        go_wp2_with fail
        go_roundg (4 - (k + 1))
        case measure => omega
        case rel =>
          refine ⟨k + 1, ad2, cp2, by omega, rfl, by go_num, rfl, ?_, ?_, ?_, ?_⟩
          · show OwnE _ _ _ _
            repeat (first | (with_reducible exact O5.out) | (with_reducible apply own_drew) | (with_reducible apply own_alloc) | ((with_reducible apply own_set); rotate_left; focus (first | (simp; done) | (simp; omega) | omega)))
          · show Below _ _ _
            repeat (first | (with_reducible exact HB5) | (with_reducible exact Below.refl _ _) | (with_reducible apply Below.drew) | (with_reducible apply below_alloc) | ((with_reducible refine Below.alloc ?_ ?_ _); rotate_left; focus (first | (simp; done) | (simp; omega) | omega)) | ((with_reducible refine Below.setCell ?_ ?_ _); rotate_left; focus (first | (simp; done) | (simp; omega) | omega)))
          · show Blk _ _ _ _
            repeat (first | (with_reducible exact HR5.out) | ((with_reducible apply Blk.new); focus (first | rfl | (simp; done) | (simp; omega))) | (with_reducible apply Blk.drew) | (with_reducible apply Blk.alloc) | (with_reducible apply Blk.set_) | ((with_reducible apply Blk.far); rotate_left; focus (first | (simp; done) | (simp; omega) | omega)))
          · show Blk _ _ _ _
            exact Blk.alloc ((((HS5.out.set_ 0 _).set_ 1 _).set_ 2 _).set_ 3 _) _
      · have hql : w1.heap.size < w2.heap.size := ql
        go_wp2_with fail
        go_roundg (4 - (k + 1))
        case measure => omega
        case rel =>
          refine ⟨k + 1, ad2, cp2, by omega, rfl, by go_num, rfl, ?_, ?_, ?_, ?_⟩
          · show OwnE _ _ _ _
            refine own_base (B := wo.heap.size + 1) ?_ (by omega)
            repeat (first | (with_reducible exact O5.out) | (with_reducible apply own_drew) | (with_reducible apply own_alloc) | ((with_reducible apply own_set); rotate_left; focus (first | (simp; done) | (simp; omega) | omega)))
          · show Below _ _ _
            repeat (first | (with_reducible exact HB5) | (with_reducible exact Below.refl _ _) | (with_reducible apply Below.drew) | (with_reducible apply below_alloc) | ((with_reducible refine Below.alloc ?_ ?_ _); rotate_left; focus (first | (simp; done) | (simp; omega) | omega)) | ((with_reducible refine Below.setCell ?_ ?_ _); rotate_left; focus (first | (simp; done) | (simp; omega) | omega)))
          · show Blk _ _ _ _
            repeat (first | (with_reducible exact HR5.out) | ((with_reducible apply Blk.new); focus (first | rfl | (simp; done) | (simp; omega))) | (with_reducible apply Blk.drew) | (with_reducible apply Blk.alloc) | (with_reducible apply Blk.set_) | ((with_reducible apply Blk.far); rotate_left; focus (first | (simp; done) | (simp; omega) | omega)))
          · show Blk _ _ _ _
            exact (((((((HS5.out.far (Nat.ne_of_lt sl) _).far (Nat.ne_of_lt sl) _).far (Nat.ne_of_lt sl) _).far (Nat.ne_of_lt sl) _).set_ 0 _).set_ 1 _).set_ 2 _).set_ 3 _
    · obtain rfl : k = 4 := by omega
      go_wp2_with fail
      refine bodyPost_ret (v := .tuple #[.agg #[.int .i64 (fourN 4).base, .int .i64 (fourN 4).next, .int .i64 (fourN 4).mark, .slice ad (fourN 4).ents.length cp], .bool true]) (by simp [results, Try.results27, go_sem, r0, r1, r2, r3]) rfl ⟨ad, cp, rfl, ?_, ?_⟩
      · refine own_base (B := w1.heap.size + 1) ?_ (by omega)
        repeat (first | (with_reducible exact OT.out) | (with_reducible apply own_drew) | (with_reducible apply own_alloc) | ((with_reducible apply own_set); rotate_left; focus (first | (simp; done) | (simp; omega) | omega)))
      · repeat (first | (with_reducible exact HB.out) | (with_reducible exact Below.refl _ _) | (with_reducible apply Below.drew) | (with_reducible apply below_alloc) | ((with_reducible refine Below.alloc ?_ ?_ _); rotate_left; focus (first | (simp; done) | (simp; omega) | omega)) | ((with_reducible refine Below.setCell ?_ ?_ _); rotate_left; focus (first | (simp; done) | (simp; omega) | omega)))

/-- The four, all but the last one of each key below 3 let go. -/
def fourA : Top := ⟨0, 4, 3, [⟨1, 1, ⟨#[98]⟩, ⟨#[118]⟩⟩, ⟨2, 2, ⟨#[97]⟩, ⟨#[118]⟩⟩, ⟨3, 3, ⟨#[99]⟩, ⟨#[118]⟩⟩]⟩
theorem fourA_may : fourA.may := by decide +kernel
theorem four_comp3 : compactP (fourN 4) 3 = (fourA, 0) := by rw [compactP_yes four_may4 (by omega)]; rfl

set_option maxHeartbeats 1000000 in
set_option maxRecDepth 100000 in
theorem alive19_any (w : World) : Calls Try.prog 28 #[] w fun e w' => e = .returned (.bool true) ∧ Below w.heap.size w w' := by
  have K4 := Lib.hid (keys_of_may four_may4)
  go_enter Try.func28, Try.ntmps28
  go_wp2_with fail
  refine Calls.mono (four_any _) ?_
  rintro e w1 ⟨ad1, cp1, rfl, ow1, hb⟩
  have HB : Hid (Below w.heap.size w _) := below_step (by repeat (first | (with_reducible exact Below.refl _ _) | (with_reducible exact Below.refl _ _) | (with_reducible apply Below.drew) | (with_reducible apply below_alloc) | ((with_reducible refine Below.alloc ?_ ?_ _); rotate_left; focus (first | (simp; done) | (simp; omega) | omega)) | ((with_reducible refine Below.setCell ?_ ?_ _); rotate_left; focus (first | (simp; done) | (simp; omega) | omega)))) hb
  have T := Lib.hid (own_top ow1)
  clear hb ow1
  go_wp2_with fail
  refine Calls.mono (compact_any 3 ?_ K4.out four_comp3) ?_
  · exact T.out.below (by repeat (first | (with_reducible exact Below.refl _ _) | (with_reducible exact Below.refl _ _) | (with_reducible apply Below.drew) | (with_reducible apply below_alloc) | ((with_reducible refine Below.alloc ?_ ?_ _); rotate_left; focus (first | (simp; done) | (simp; omega) | omega)) | ((with_reducible refine Below.setCell ?_ ?_ _); rotate_left; focus (first | (simp; done) | (simp; omega) | omega))))
  rintro e w2 ⟨ad2, cp2, rfl, ow2, hb⟩
  replace HB : Hid (Below w.heap.size w _) := below_step (by repeat (first | (with_reducible exact HB.out) | (with_reducible exact Below.refl _ _) | (with_reducible apply Below.drew) | (with_reducible apply below_alloc) | ((with_reducible refine Below.alloc ?_ ?_ _); rotate_left; focus (first | (simp; done) | (simp; omega) | omega)) | ((with_reducible refine Below.setCell ?_ ?_ _); rotate_left; focus (first | (simp; done) | (simp; omega) | omega)))) hb
  obtain ⟨bb, off, rfl, he⟩ := ow2.reads.ents.2.2 (by decide)
  have cc := he 0 (by decide)
  have dd := he 1 (by decide)
  obtain ⟨⟨⟨c0, _⟩, _⟩, _⟩ := cc
  obtain ⟨⟨⟨d0, _⟩, _⟩, _⟩ := dd
  have c0' : w2.cell? ⟨bb, off, none⟩ = some (.int .i64 1) := c0
  have d0' : w2.cell? ⟨bb, off + 4, none⟩ = some (.int .i64 2) := d0
  have hbb : bb < w2.heap.size := World.block_lt_of_cell? w2 _ c0
  have hcp := ow2.reads.ents.1.2
  have hmk : fourA.mark = 3 := rfl
  clear hb ow2 he c0 d0
  go_wp2_with fail
  go_ret
  refine ⟨rfl, ?_⟩
  repeat (first | (with_reducible exact HB.out) | (with_reducible exact Below.refl _ _) | (with_reducible apply Below.drew) | (with_reducible apply below_alloc) | ((with_reducible refine Below.alloc ?_ ?_ _); rotate_left; focus (first | (simp; done) | (simp; omega) | omega)) | ((with_reducible refine Below.setCell ?_ ?_ _); rotate_left; focus (first | (simp; done) | (simp; omega) | omega)))
end Go.Proofs.Ytolgkadoplalnaa
