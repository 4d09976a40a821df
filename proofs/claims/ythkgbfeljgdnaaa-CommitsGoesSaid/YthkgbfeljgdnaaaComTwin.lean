/-
  commits.Twin, commits.New and the document's: new rows. No condition but that the slices read and are not great.
-/
import Derived.Test.YthkgbfeljgdnaaaProg
import Derived.Test.YthkgbfeljgdnaaaRows2
import Derived.OwnWalk
import Derived.Deep.DeepMust
namespace Go.Proofs.Ythkgbfeljgdnaaa
open Go.RowKit

abbrev OwnC (w : World) (base : Nat) (v : Value) (m : List (List Int)) : Prop := OwnRows 65 3 w base v m

theorem info_int : (Try.prog.info? 3).map (fun i => (i.zero, i.size, i.bytes)) = some (some (.int .i64 0), 1, 8) := by kernel_rfl
theorem info_row : (Try.prog.info? 65).map (fun i => (i.zero, i.size, i.bytes)) = some (some (.slice none 0 0), 1, 24) := by kernel_rfl
theorem size_int : (Try.prog.info? 3).map (·.size) = some 1 := by kernel_rfl

/-- Not great: at most 1000 numbers and rows. -/
def few (m : List (List Int)) : Prop := m.length ≤ 1000 ∧ ∀ r ∈ m, r.length ≤ 1000

theorem rowVals_one (r : List Int) : ∀ v ∈ rowVals r, v.oneCell' = true := by
  intro v hv
  simp only [rowVals, List.mem_map] at hv
  obtain ⟨y, _, rfl⟩ := hv
  rfl

def TwinEnd (m : List (List Int)) (w : World) (e : Ending) (w' : World) : Prop := ∃ v', e = .returned v' ∧ OwnC w' w.heap.size v' m ∧ Below w.heap.size w w'

set_option maxHeartbeats 4000000 in
theorem twin_some (b off n cap : Nat) (us : List Value) (m : List (List Int)) (w : World) (hn : n = m.length) (hcap : n ≤ cap) (hm : n ≤ 1000) (hfew : ∀ r ∈ m, r.length ≤ 1000)
    (hc : ∀ i, i < n → w.cell? ⟨b, off + i, none⟩ = some (us.getD i .nilIface)) (hr : ∀ i, i < n → SliceR w (us.getD i .nilIface) 1 intCell (m.getD i [])) :
    Calls Try.prog 34 #[.slice (some ⟨b, off, none⟩) n cap] w (TwinEnd m w) := by
  obtain ⟨i0, hi, hz0, hz1, hz2⟩ := info_parts info_row
  obtain ⟨i1, gi, gz0, gz1, gz2⟩ := info_parts info_int
  have HC := Lib.hid hc
  have HR := Lib.hid hr
  have HN := Lib.hid hn
  have HF := Lib.hid hfew
  have n0 : (n : Int) ≤ 1000 := by omega
  obtain ⟨B, hB⟩ : ∃ B, B = w.heap.size := ⟨_, rfl⟩
  have HB := Lib.hid hB
  clear hn hc hr hfew hB
  go_enter Try.func34, Try.ntmps34
  go_wp2_with fail
  go_loopw [3, 9] (fun o i wr => ∃ k : Nat, k ≤ n ∧ i = .int .i64 (k : Int) ∧ Hid (OwnC wr B o (m.take k)) ∧ Hid (Below B w wr)) (fun _ i _ => n - (intOf i).toNat)
  case atStart => exact ⟨0, Nat.zero_le _, rfl, OwnRows.nil _ _ _ _, Below.refl _ _⟩
  case round =>
    obtain ⟨k, hk, rfl, hown, hb⟩ := hrel
    by_cases hlt : k < n
    · have hk0 : (0 : Int) ≤ (k : Int) := by omega
      have hk1 : (k : Int) < (n : Int) := by omega
      have hbw : Below w.heap.size w wr := by rw [← HB.out]; exact hb.out
      have hBr : B ≤ wr.heap.size := by rw [HB.out]; exact hbw.size
      have c0 := keep hbw (HC.out k hlt)
      have r0 := (HR.out k hlt).below (fun _ => rfl) hbw
      obtain ⟨u, hu⟩ : ∃ u, u = us.getD k .nilIface := ⟨_, rfl⟩
      rw [← hu] at c0 r0
      clear hu
      obtain ⟨r, hr⟩ : ∃ r, r = m.getD k [] := ⟨_, rfl⟩
      rw [← hr] at r0
      have hrl : r.length ≤ 1000 := by
        have h1 := HN.out
        have : m.getD k [] ∈ m := by
          have e : m.getD k [] = m[k]'(by omega) := by simp [List.getD, show k < m.length by omega]
          rw [e]; exact List.getElem_mem _
        rw [hr]
        exact HF.out _ this
      have HRR := Lib.hid hr
      clear hr
      have r1 := r0
      obtain ⟨ua, ucap, hua, huc, _, hun, hud⟩ := r1
      subst hua
      have R0 := Lib.hid r0
      obtain ⟨us', h1, h2, h3, h4⟩ := hown.out
      have HO4 := Lib.hid h4
      have HO1 := Lib.hid h1
      have HO2 := Lib.hid h2
      have HO3 := Lib.hid h3
      have HUD := Lib.hid hud
      have hul : us'.length ≤ 1000 := by
        rw [h2, List.length_take]
        have := HN.out
        omega
      clear r0 hun hud hown h1 h2 h3 h4 hbw
      go_wp2_with (at_make; go_must (refine wpList_make_full _ rfl _ _ 65 rfl B 3 i1 (.int .i64 0) 1 Try.underlying65 gi gz0 gz1 .i64 .i64 _ _ r.length rfl rfl rfl rfl (by rw [gz2]; omega) (by unfold maxLen; omega) hBr ?_))
      intro w1 hx hg1
      obtain ⟨cur, hcur, hcl⟩ : ∃ cur : List Value, w1.heap[wr.heap.size]? = some (.cells cur.toArray 3 (0, 0)) ∧ cur.length = r.length := by
        rcases hx.2 with ⟨h0, _⟩ | ⟨g, cp, cr, e1, _, e2, _, _, e5, _⟩
        · cases h0
        · cases e1
          exact ⟨cr.toList, by simpa using e2, by simpa using e5⟩
      have HCU := Lib.hid hcur
      have HFIT := Lib.hid (show 0 + (rowVals r).length ≤ cur.length by simp [rowVals, hcl])
      have HNN := Lib.hid (show (rowVals r).length = Nat.min r.length r.length by simp [rowVals])
      clear hx hcur
      have hps : 0 < (rowVals r).length → (some ⟨wr.heap.size, 0, none⟩ : Option Addr) = some ⟨wr.heap.size, 0, none⟩ ∧ ∃ ad, ua = some ad ∧ ∀ j v, (rowVals r)[j]? = some v → w1.cell? (ad.add j) = some v := by
        intro hpos
        refine ⟨rfl, ?_⟩
        have hpos' : 0 < r.length := by simpa [rowVals] using hpos
        obtain ⟨ub, uoff, e1, _⟩ := HUD.out hpos'
        subst e1
        refine ⟨_, rfl, fun j v hv => ?_⟩
        exact (R0.out.below (fun _ => rfl) (belowGrown hg1)).flat (fun _ => rfl) (by omega) j v (by rw [← rowVals_flat]; exact hv)
      have HPS := Lib.hid hps
      clear hps
      go_wp2_with (with_reducible refine wpList_copy_splice (o := ⟨some 18, _, _, _, _, _⟩) rfl _ _ 65 65 rfl 3 Try.underlying65 size_int (some ⟨wr.heap.size, 0, none⟩) ua r.length r.length r.length ucap rfl rfl wr.heap.size 0 cur 3 HCU.out (rowVals r) HNN.out HPS.out HFIT.out (rowVals_one r) wr.heap.size w1 (Below.refl _ _) (Nat.le_refl _) ?_)
      intro w2 hw2 hb2
      have hbr : Below wr.heap.size wr w2 := (belowGrown hg1).trans hb2
      have hx2 : w2.ownsRow B 3 1 (.slice (some ⟨wr.heap.size, 0, none⟩) r.length r.length) r.length (rowVals r) := by
        have h5 := hw2.out
        rw [splice_all cur (rowVals r) (by simp [rowVals, hcl])] at h5
        refine ⟨by simp [rowVals], Or.inr ⟨_, r.length, _, rfl, hBr, h5, Nat.le_refl _, by unfold maxLen; omega, by simp [rowVals], List.take_of_length_le (by simp [rowVals])⟩⟩
      have hO1 := ownsRow_keep HO1.out hbr
      have hO3 : ∀ i, i < (m.take k).length → w2.ownsRow B 3 1 (us'.getD i .nilIface) ((m.take k).getD i []).length (rowVals ((m.take k).getD i [])) := fun i hi => ownsRow_keep (HO3.out i hi) hbr
      have HX2 := Lib.hid hx2
      have HQ1 := Lib.hid hO1
      have HQ3 := Lib.hid hO3
      have HBR := Lib.hid hbr
      clear hx2 hO1 hO3 hbr hw2 hb2 hg1 c0
      go_wp2_with (at_builtin; go_must (refine wpList_append_own _ rfl _ _ 44 rfl B 65 i0 (.slice none 0 0) 1 24 Try.underlying44 hi hz0 hz1 hz2 rfl (by decide) _ us'.length us' rfl (HQ1.out.alloc _) ⟨w2.heap.size, 0, none⟩ 1 1 [.slice (some ⟨wr.heap.size, 0, none⟩) r.length r.length] rfl rfl ?_ (by intro v hv; simp at hv; subst hv; rfl) (by unfold maxLen; omega) (by omega) (by have := HBR.out.size; simp; omega) ?_))
      · intro j v hv
        match j, hv with
        | 0, hv => simp at hv; subst hv; simp [Addr.add]
      · intro v' w3 hown3 hgrow3 _
        have R := OwnRows.snoc (te := 65) (ti := 3) (by decide) (HQ1.out.alloc (.cells #[.slice (some ⟨wr.heap.size, 0, none⟩) r.length r.length] 65)) HO2.out (fun i hi => (HQ3.out i hi).alloc _) HO4.out (HX2.out.alloc _) (fun i hi j hj => by have := ((HO3.out i hi).lt j hj).2; simp only [Value.ownBlock, ne_eq, Option.some.injEq]; omega) hown3 hgrow3
        have hb3 : Below B w w3 := by
          refine Below.grown (hb.out.trans ((HBR.out.mono hBr).trans ((Below.refl _ _).alloc (by have := HBR.out.size; omega) _))) hgrow3 (by have := HBR.out.size; simp; omega) (fun j hj => ?_)
          exact (HQ1.out.lt j hj).1
        have HR3 := Lib.hid R
        have HB3 := Lib.hid hb3
        clear hown3 hgrow3 R hb3
        go_wp2_with fail
        go_roundw
        case rel =>
          refine ⟨k + 1, by omega, by go_num, ?_, HB3⟩
          have e : m.take (k + 1) = m.take k ++ [r] := by
            have h1 := HN.out
            rw [List.take_succ_eq_append_getElem (by omega), HRR.out]
            simp [List.getD, show k < m.length by omega]
          show OwnC w3 B v' (m.take (k + 1))
          rw [e]
          exact HR3.out
        case measure => simp [intOf]; omega
    · obtain rfl : k = n := by omega
      have hlt' : ¬ (k : Int) < (k : Int) := by omega
      go_wp2_with fail
      go_ret
      refine ⟨_, rfl, ?_, ?_⟩
      · have e : m.take k = m := by rw [HN.out]; exact List.take_length
        have h1 := hown.out
        rw [e, HB.out] at h1
        exact h1
      · rw [← HB.out]; exact hb.out

theorem twin_none (a : Option Addr) (cap : Nat) (w : World) : Calls Try.prog 34 #[.slice a 0 cap] w (TwinEnd [] w) := by
  go_enter Try.func34, Try.ntmps34
  go_wp2_with fail
  refine wp_loop_rounds 1 ?_
  rw [rounds_succ]
  go_wp2
  go_ret
  exact ⟨_, rfl, OwnRows.nil _ _ _ _, Below.refl _ _⟩

theorem twin_any {v : Value} {m : List (List Int)} {w : World} (h : RowsR w v m) (hf : few m) : Calls Try.prog 34 #[v] w (TwinEnd m w) := by
  obtain ⟨us, h1, h2, h3⟩ := h
  obtain ⟨a, cap, rfl, hcap, hm, _, hc⟩ := h1.one (c := fun u => u) .nilIface
  by_cases hl : us.length = 0
  · have : m = [] := List.length_eq_zero_iff.1 (by omega)
    subst this
    rw [hl]
    exact twin_none a cap w
  · obtain ⟨b, off, rfl, hd⟩ := hc (by omega)
    exact twin_some b off _ cap us m w h2 hcap (by rw [h2]; exact hf.1) hf.2 hd (fun i hi => h3 i (by omega))

end Go.Proofs.Ythkgbfeljgdnaaa
