/-
  commits.New. No condition.
-/
import Derived.Test.YthkgbfeljgdnaaaComTwin
import Derived.Test.YthkgbfeljgdnaaaComCheck
namespace Go.Proofs.Ythkgbfeljgdnaaa
open Go.RowKit

def newC : List (List Int) := List.replicate 4 (List.replicate 8 0)
theorem rowVals_zero : (madeCells #[Value.int .i64 0] 8).toList = rowVals (List.replicate 8 0) := by
  simp [madeCells, rowVals, List.range_succ, Array.toList_range]

def NewEnd (w : World) (e : Ending) (w' : World) : Prop := ∃ v', e = .returned v' ∧ OwnC w' w.heap.size v' newC ∧ Below w.heap.size w w'

set_option maxHeartbeats 1000000 in
theorem new_any (w : World) : Calls Try.prog 26 #[] w (NewEnd w) := by
  obtain ⟨i0, hi, hz0, hz1, hz2⟩ := info_parts info_row
  obtain ⟨i1, gi, gz0, gz1, gz2⟩ := info_parts info_int
  obtain ⟨B, hB⟩ : ∃ B, B = w.heap.size := ⟨_, rfl⟩
  have HB := Lib.hid hB
  clear hB
  go_enter Try.func26, Try.ntmps26
  go_wp2_with fail
  go_loopw [1, 2] (fun o i wr => ∃ k : Nat, k ≤ 4 ∧ i = .int .i64 (k : Int) ∧ Hid (OwnC wr B o (List.replicate k (List.replicate 8 0))) ∧ Hid (Below B w wr)) (fun _ i _ => 4 - (intOf i).toNat)
  case atStart => exact ⟨0, Nat.zero_le _, rfl, OwnRows.nil _ _ _ _, Below.refl _ _⟩
  case round =>
    obtain ⟨k, hk, rfl, hown, hb⟩ := hrel
    by_cases hlt : k < 4
    · have hk0 : (0 : Int) ≤ (k : Int) := by omega
      have hk1 : (k : Int) < 4 := by omega
      have hbw : Below w.heap.size w wr := by rw [← HB.out]; exact hb.out
      have hBr : B ≤ wr.heap.size := by rw [HB.out]; exact hbw.size
      obtain ⟨us', h1, h2, h3, h4⟩ := hown.out
      have HO1 := Lib.hid h1
      have HO2 := Lib.hid h2
      have HO3 := Lib.hid h3
      have HO4 := Lib.hid h4
      have hul : us'.length ≤ 4 := by
        rw [h2, List.length_replicate]
        omega
      clear hown h1 h2 h3 h4 hbw
      go_wp2_with (at_make; go_must (refine wpList_make_full _ rfl _ _ 65 rfl B 3 i1 (.int .i64 0) 1 Try.underlying65 gi gz0 gz1 .i64 .i64 _ _ 8 rfl rfl rfl rfl (by rw [gz2]; omega) (by unfold maxLen; omega) hBr ?_))
      intro w1 hx hg1
      rw [rowVals_zero] at hx
      have hbr := belowGrown hg1
      have HX2 := Lib.hid hx
      have HQ1 := Lib.hid (ownsRow_keep HO1.out hbr)
      have HQ3 := Lib.hid (fun i hi => ownsRow_keep (HO3.out i hi) hbr)
      have HBR := Lib.hid hbr
      clear hx hg1 hbr
      go_wp2_with (at_builtin; go_must (refine wpList_append_own _ rfl _ _ 44 rfl B 65 i0 (.slice none 0 0) 1 24 Try.underlying44 hi hz0 hz1 hz2 rfl (by decide) _ us'.length us' rfl (HQ1.out.alloc _) ⟨w1.heap.size, 0, none⟩ 1 1 [.slice (some ⟨wr.heap.size, 0, none⟩) 8 8] rfl rfl ?_ (by intro v hv; simp at hv; subst hv; rfl) (by unfold maxLen; omega) (by omega) (by have := HBR.out.size; simp; omega) ?_))
      · intro j v hv
        match j, hv with
        | 0, hv => simp at hv; subst hv; simp [Addr.add]
      · intro v' w3 hown3 hgrow3 _
        have R := OwnRows.snoc (te := 65) (ti := 3) (r := List.replicate 8 0) (by decide) (HQ1.out.alloc (.cells #[.slice (some ⟨wr.heap.size, 0, none⟩) 8 8] 65)) HO2.out (fun i hi => (HQ3.out i hi).alloc _) HO4.out (HX2.out.alloc _) (fun i hi j hj => by have := ((HO3.out i hi).lt j hj).2; simp only [Value.ownBlock, ne_eq, Option.some.injEq]; omega) hown3 hgrow3
        have hb3 : Below B w w3 := by
          refine Below.grown (hb.out.trans ((HBR.out.mono hBr).trans ((Below.refl _ _).alloc (by have := HBR.out.size; omega) _))) hgrow3 (by have := HBR.out.size; simp; omega) (fun j hj => ?_)
          exact (HQ1.out.lt j hj).1
        have HR3 := Lib.hid R
        have HB3 := Lib.hid hb3
        clear hown3 hgrow3 R hb3
        go_wp2_with fail
        go_roundw
        case rel =>
          refine ⟨k + 1, by omega, by go_num, ?_, HB3⟩
          show OwnC w3 B v' (List.replicate (k + 1) (List.replicate 8 0))
          rw [List.replicate_succ']
          exact HR3.out
        case measure => simp [intOf]; omega
    · obtain rfl : k = 4 := by omega
      go_wp2_with fail
      go_ret
      refine ⟨_, rfl, ?_, ?_⟩
      · have h1 := hown.out
        rw [HB.out] at h1
        exact h1
      · rw [← HB.out]; exact hb.out

theorem okC_new : okC newC = true := by decide
end Go.Proofs.Ythkgbfeljgdnaaa
