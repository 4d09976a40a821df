/-
  Texts that belong together; the remark at the head of each says what it proves.
-/
import Derived.Test.YtblgmjbajnkcdabBunJ
import Derived.Deep.LoopGhost
import Derived.Test.YtblgmjbajnkcdabBunC
import Derived.Laws.AppendOwnNone
import Derived.OwnWalk
set_option maxRecDepth 100000
/-
  The document's commits: may they be, the error of commits, a topic and a consumer, how far one is. No condition but that the slices read.
-/
namespace Go.Proofs.Ytblgmjbajnkcdab
open Go.RowKit

theorem okC_bad {m : List (List Int)} {k : Nat} (hk : k < m.length) (hb : rowBad (m.getD k []) = true) : okC m = false := by
  have e : m.getD k [] = m[k] := by simp [List.getD, hk]
  rw [e] at hb
  have : m.any rowBad = true := List.any_eq_true.2 ⟨_, List.getElem_mem hk, hb⟩
  simp [okC, this]
theorem okC_end {m : List (List Int)} (h : ∀ i, i < m.length → rowBad (m.getD i []) = false) : okC m = decide (m.length = 4) := by
  have : m.any rowBad = false := by
    refine List.any_eq_false.2 fun r hr => ?_
    obtain ⟨i, hi, e⟩ := List.getElem_of_mem hr
    have h1 := h i hi
    have e1 : m.getD i [] = m[i] := by simp [List.getD, hi]
    rw [e1, e] at h1
    simp [h1]
  simp [okC, this]
theorem rowBad_cell {r : List Int} {j : Nat} (hj : j < r.length) (hb : badI (r.getD j 0) = true) : rowBad r = true := by
  have e : r.getD j 0 = r[j] := by simp [List.getD, hj]
  rw [e] at hb
  have : r.any badI = true := List.any_eq_true.2 ⟨_, List.getElem_mem hj, hb⟩
  simp [rowBad, this]
theorem rowBad_len {r : List Int} (hl : r.length ≠ 8) : rowBad r = true := by simp [rowBad, hl]
theorem rowBad_end {r : List Int} (hl : r.length = 8) (h : ∀ j, j < 8 → badI (r.getD j 0) = false) : rowBad r = false := by
  have : r.any badI = false := by
    refine List.any_eq_false.2 fun x hx => ?_
    obtain ⟨i, hi, e⟩ := List.getElem_of_mem hx
    have h1 := h i (by omega)
    have e1 : r.getD i 0 = r[i] := by simp [List.getD, hi]
    rw [e1, e] at h1
    simp [h1]
  simp [rowBad, this, hl]

theorem may_none (a : Option Addr) (cap : Nat) (w : World) : Calls Try.prog 84 #[.slice a 0 cap] w fun e w' => e = .returned (.bool false) ∧ w = w' := by
  go_enter Try.func84, Try.ntmps84
  go_wp2_with fail
  refine wp_loop_rounds 1 ?_
  rw [rounds_succ]
  go_wp2
  go_ret
  exact ⟨rfl, rfl⟩

set_option maxHeartbeats 2000000 in
theorem may_some (b off n cap : Nat) (us : List Value) (m : List (List Int)) (w : World) (hn : n = m.length) (hl : 0 < n) (hcap : n ≤ cap) (hm : cap ≤ 9223372036854775807)
    (hc : ∀ i, i < n → w.cell? ⟨b, off + i, none⟩ = some (us.getD i .nilIface)) (hr : ∀ i, i < n → SliceR w (us.getD i .nilIface) 1 intCell (m.getD i [])) :
    Calls Try.prog 84 #[.slice (some ⟨b, off, none⟩) n cap] w fun e w' => e = .returned (.bool (okC m)) ∧ w = w' := by
  have HC := Lib.hid hc
  have HR := Lib.hid hr
  have HN := Lib.hid hn
  obtain ⟨z, hz⟩ : ∃ z, z = okC m := ⟨_, rfl⟩
  rw [← hz]
  have HZ := Lib.hid hz
  clear hn hc hr hz
  have hn' : (n : Int) ≤ 9223372036854775807 := by omega
  go_enter Try.func84, Try.ntmps84
  go_wp2_with fail
  go_loopg [3] n (fun g i wr => w = wr ∧ ∃ k : Nat, k ≤ n ∧ g = n - k ∧ i = .int .i64 (k : Int) ∧ Hid (∀ i, i < k → rowBad (m.getD i []) = false))
  case atStart => exact ⟨rfl, 0, Nat.zero_le _, rfl, rfl, fun i hi => absurd hi (Nat.not_lt_zero _)⟩
  case round =>
    obtain ⟨rfl, k, hk, rfl, rfl, hall⟩ := hrel
    by_cases hlt : k < n
    · have hk0 : (0 : Int) ≤ (k : Int) := by omega
      have hk1 : (k : Int) < (n : Int) := by omega
      have c0 := HC.out k hlt
      have r0 := HR.out k hlt
      obtain ⟨u, hu⟩ : ∃ u, u = us.getD k .nilIface := ⟨_, rfl⟩
      rw [← hu] at c0 r0
      clear hu
      obtain ⟨r, hr⟩ : ∃ r, r = m.getD k [] := ⟨_, rfl⟩
      rw [← hr] at r0
      have HRR := Lib.hid hr
      clear hr
      obtain ⟨ua, ucap, hua, _, _, _, hrc⟩ := r0.one (c := fun n => .int .i64 n) 0
      subst hua
      by_cases h8 : r.length = 8
      · obtain ⟨rb, roff, rfl, hrd⟩ := hrc (by omega)
        have HRD := Lib.hid hrd
        rw [h8] at c0
        have H8 := Lib.hid h8
        clear h8 hrd hrc r0
        go_wp2_with fail
        go_loopg [4] 8 (fun g j wr => w = wr ∧ ∃ q : Nat, q ≤ 8 ∧ g = 8 - q ∧ j = .int .i64 (q : Int) ∧ Hid (∀ i, i < q → badI (r.getD i 0) = false))
        case atStart => exact ⟨rfl, 0, Nat.zero_le _, rfl, rfl, fun i hi => absurd hi (Nat.not_lt_zero _)⟩
        case round =>
          obtain ⟨rfl, q, hq, rfl, rfl, hin⟩ := hrel
          by_cases hlt8 : q < 8
          · have hq0 : (0 : Int) ≤ (q : Int) := by omega
            have hq1 : (q : Int) < 8 := by omega
            have hq2 : (q : Int) < ((8 : Nat) : Int) := by omega
            have c1 := HRD.out q (by rw [H8.out]; exact hlt8)
            obtain ⟨x, hx⟩ : ∃ x, x = r.getD q 0 := ⟨_, rfl⟩
            rw [← hx] at c1
            have HX := Lib.hid hx
            clear hx
            by_cases x1 : x < 0
            · go_wp2_with fail
              go_ret
              refine ⟨?_, rfl⟩
              rw [HZ.out, okC_bad (k := k) (by rw [← HN.out]; exact hlt) (by rw [← HRR.out]; exact rowBad_cell (j := q) (by rw [H8.out]; exact hlt8) (by rw [← HX.out]; simp [badI, x1]))]
              rfl
            · by_cases x2 : 1073741824 < x
              · have x3 : 0 ≤ x := by omega
                go_wp2_with fail
                go_ret
                refine ⟨?_, rfl⟩
                rw [HZ.out, okC_bad (k := k) (by rw [← HN.out]; exact hlt) (by rw [← HRR.out]; exact rowBad_cell (j := q) (by rw [H8.out]; exact hlt8) (by rw [← HX.out]; simp [badI, x2]))]
                rfl
              · have x3 : 0 ≤ x := by omega
                have x4 : x ≤ 1073741824 := by omega
                go_wp2_with fail
                go_roundg (8 - (q + 1))
                case measure => omega
                case rel =>
                  refine ⟨rfl, q + 1, by omega, rfl, by go_num, fun i hi => ?_⟩
                  by_cases hiq : i < q
                  · exact hin.out i hiq
                  · obtain rfl : i = q := by omega
                    rw [← HX.out]
                    simp only [badI, Bool.or_eq_false_iff, decide_eq_false_iff_not]
                    omega
          · obtain rfl : q = 8 := by omega
            go_wp2_with fail
            go_roundg (n - (k + 1))
            case measure => omega
            case rel =>
              refine ⟨rfl, k + 1, by omega, rfl, by go_num, fun i hi => ?_⟩
              by_cases hik : i < k
              · exact hall.out i hik
              · obtain rfl : i = k := by omega
                rw [← HRR.out]
                exact rowBad_end H8.out hin.out
      · obtain ⟨rl, hrl⟩ : ∃ rl, rl = r.length := ⟨_, rfl⟩
        rw [← hrl] at c0 h8
        have HRL := Lib.hid hrl
        have hd : ((rl : Int) != 8) = true := by simp; omega
        have H8 := Lib.hid h8
        clear hrl hrc r0 h8
        go_wp2_with fail
        go_ret
        refine ⟨?_, rfl⟩
        rw [HZ.out, okC_bad (k := k) (by rw [← HN.out]; exact hlt) (by rw [← HRR.out]; exact rowBad_len (by rw [← HRL.out]; exact H8.out))]
        rfl
    · obtain rfl : k = n := by omega
      have hlt' : ¬ (k : Int) < (k : Int) := by omega
      by_cases h4 : k = 4
      · subst h4
        go_wp2_with fail
        go_ret
        refine ⟨?_, rfl⟩
        rw [HZ.out, okC_end (by rw [← HN.out]; exact hall.out), ← HN.out]
        rfl
      · have hd : ((k : Int) == 4) = false := by simp; omega
        have H4 := Lib.hid h4
        clear h4
        go_wp2_with fail
        go_ret
        refine ⟨?_, rfl⟩
        rw [HZ.out, okC_end (by rw [← HN.out]; exact hall.out), ← HN.out, decide_eq_false H4.out]
        rfl

theorem may_any {v : Value} {m : List (List Int)} {w : World} (h : RowsR w v m) : Calls Try.prog 84 #[v] w fun e w' => e = .returned (.bool (okC m)) ∧ w = w' := by
  obtain ⟨us, h1, h2, h3⟩ := h
  obtain ⟨a, cap, rfl, hcap, hm, _, hc⟩ := h1.one (c := fun u => u) .nilIface
  by_cases hl : us.length = 0
  · have : m = [] := List.length_eq_zero_iff.1 (by omega)
    subst this
    rw [hl]
    exact may_none a cap w
  · obtain ⟨b, off, rfl, hd⟩ := hc (by omega)
    unfold maxLen at hm
    exact may_some b off _ cap us m w h2 (by omega) hcap hm hd (fun i hi => h3 i (by omega))

theorem refAsked_any {v : Value} {m : List (List Int)} (t k : Int) {w : World} (h : RowsR w v m) :
    Calls Try.prog 86 #[v, .int .i64 t, .int .i64 k] w fun e w' => e = .returned (.int .i64 (askC m t k)) ∧ w = w' := by
  have K := may_any h
  obtain ⟨a, na, cap, rfl⟩ := h.shape
  cases hok : okC m
  · rw [hok] at K
    have e : askC m t k = 8 := by simp [askC, hok]
    rw [e]
    have HK := Lib.hid K
    clear K hok e h
    go_enter Try.func86, Try.ntmps86
    go_wp2_with fail
    refine HK.out.mono ?_
    rintro e w1 ⟨rfl, rfl⟩
    go_wp2_with fail
    go_ret
    exact ⟨rfl, rfl⟩
  · rw [hok] at K
    have HK := Lib.hid K
    have e : askC m t k = if 0 ≤ t ∧ t < 4 ∧ 0 ≤ k ∧ k < 8 then 0 else 2 := by simp only [askC, hok, if_true, inTW, decide_eq_true_eq]
    rw [e]
    clear K hok e h
    by_cases h1 : t < 0
    · rw [if_neg (by omega)]
      go_enter Try.func86, Try.ntmps86
      go_wp2_with fail
      refine HK.out.mono ?_
      rintro e w1 ⟨rfl, rfl⟩
      go_wp2_with fail
      go_ret
      exact ⟨rfl, rfl⟩
    · by_cases h2 : 4 ≤ t
      · rw [if_neg (by omega)]
        go_enter Try.func86, Try.ntmps86
        go_wp2_with fail
        refine HK.out.mono ?_
        rintro e w1 ⟨rfl, rfl⟩
        go_wp2_with fail
        go_ret
        exact ⟨rfl, rfl⟩
      · by_cases h3 : k < 0
        · rw [if_neg (by omega)]
          go_enter Try.func86, Try.ntmps86
          go_wp2_with fail
          refine HK.out.mono ?_
          rintro e w1 ⟨rfl, rfl⟩
          go_wp2_with fail
          go_ret
          exact ⟨rfl, rfl⟩
        · by_cases h4 : 8 ≤ k
          · rw [if_neg (by omega)]
            go_enter Try.func86, Try.ntmps86
            go_wp2_with fail
            refine HK.out.mono ?_
            rintro e w1 ⟨rfl, rfl⟩
            go_wp2_with fail
            go_ret
            exact ⟨rfl, rfl⟩
          · rw [if_pos (by omega)]
            go_enter Try.func86, Try.ntmps86
            go_wp2_with fail
            refine HK.out.mono ?_
            rintro e w1 ⟨rfl, rfl⟩
            go_wp2_with fail
            go_ret
            exact ⟨rfl, rfl⟩

end Go.Proofs.Ytblgmjbajnkcdab
/-
  The document's copy of commits, and its Set. No condition but that the slices read and are not great.
-/
namespace Go.Proofs.Ytblgmjbajnkcdab
open Go.RowKit

set_option maxHeartbeats 4000000 in
theorem refTwin_some (b off n cap : Nat) (us : List Value) (m : List (List Int)) (w : World) (hn : n = m.length) (hcap : n ≤ cap) (hm : n ≤ 1000) (hfew : ∀ r ∈ m, r.length ≤ 1000)
    (hc : ∀ i, i < n → w.cell? ⟨b, off + i, none⟩ = some (us.getD i .nilIface)) (hr : ∀ i, i < n → SliceR w (us.getD i .nilIface) 1 intCell (m.getD i [])) :
    Calls Try.prog 42 #[.slice (some ⟨b, off, none⟩) n cap] w (TwinEnd m w) := by
  obtain ⟨i0, hi, hz0, hz1, hz2⟩ := info_parts info_row
  obtain ⟨i1, gi, gz0, gz1, gz2⟩ := info_parts info_int
  have HC := Lib.hid hc
  have HR := Lib.hid hr
  have HN := Lib.hid hn
  have HF := Lib.hid hfew
  have n0 : (n : Int) ≤ 1000 := by omega
  obtain ⟨B, hB⟩ : ∃ B, B = w.heap.size := ⟨_, rfl⟩
  have HB := Lib.hid hB
  clear hn hc hr hfew hB
  go_enter Try.func42, Try.ntmps42
  go_wp2_with fail
  go_loopw [3, 4] (fun o i wr => ∃ k : Nat, k ≤ n ∧ i = .int .i64 (k : Int) ∧ Hid (OwnC wr B o (m.take k)) ∧ Hid (Below B w wr)) (fun _ i _ => n - (intOf i).toNat)
  case atStart => exact ⟨0, Nat.zero_le _, rfl, OwnRows.nil _ _ _ _, Below.refl _ _⟩
  case round =>
    obtain ⟨k, hk, rfl, hown, hb⟩ := hrel
    by_cases hlt : k < n
    · have hk0 : (0 : Int) ≤ (k : Int) := by omega
      have hk1 : (k : Int) < (n : Int) := by omega
      have hbw : Below w.heap.size w wr := by rw [← HB.out]; exact hb.out
      have hBr : B ≤ wr.heap.size := by rw [HB.out]; exact hbw.size
      have c0 := keep hbw (HC.out k hlt)
      have r0 := (HR.out k hlt).below (fun _ => rfl) hbw
      obtain ⟨u, hu⟩ : ∃ u, u = us.getD k .nilIface := ⟨_, rfl⟩
      rw [← hu] at c0 r0
      clear hu
      obtain ⟨r, hr⟩ : ∃ r, r = m.getD k [] := ⟨_, rfl⟩
      rw [← hr] at r0
      have hrl : r.length ≤ 1000 := by
        have h1 := HN.out
        have : m.getD k [] ∈ m := by
          have e : m.getD k [] = m[k]'(by omega) := by simp [List.getD, show k < m.length by omega]
          rw [e]; exact List.getElem_mem _
        rw [hr]
        exact HF.out _ this
      have HRR := Lib.hid hr
      clear hr
      have r1 := r0
      obtain ⟨ua, ucap, hua, huc, _, hun, hud⟩ := r1
      subst hua
      have R0 := Lib.hid r0
      obtain ⟨us', h1, h2, h3, h4⟩ := hown.out
      have HO4 := Lib.hid h4
      have HO1 := Lib.hid h1
      have HO2 := Lib.hid h2
      have HO3 := Lib.hid h3
      have HUD := Lib.hid hud
      have hun2 : ua = none → r.length = 0 ∧ ucap = 0 := by
        intro e
        refine ⟨?_, hun e⟩
        by_cases h : 0 < r.length
        · obtain ⟨_, _, e2, _⟩ := hud h
          rw [e] at e2
          cases e2
        · omega
      have HUN := Lib.hid hun2
      clear hun2
      have hul : us'.length ≤ 1000 := by
        rw [h2, List.length_take]
        have := HN.out
        omega
      clear r0 hun hud hown h1 h2 h3 h4 hbw
      go_wp2_with (at_builtin; go_must (refine wpList_append_own_any _ rfl _ _ 43 rfl wr.heap.size 3 i1 (.int .i64 0) 1 8 Try.underlying43 gi gz0 gz1 gz2 rfl (by decide) _ 0 [] rfl (World.ownsRow_nil _ _ _ _) ua r.length ucap (rowVals r) rfl (by simp [rowVals]) HUN.out ?_ (rowVals_one r) (by unfold maxLen; omega) (by omega) (Nat.le_refl _) ?_))
      · intro ad had j v hv
        have hpos : 0 < r.length := by
          have h := (List.getElem?_eq_some_iff.1 hv).1
          simp [rowVals] at h
          omega
        subst had
        obtain ⟨ub, uoff, e1, _⟩ := HUD.out hpos
        cases e1
        exact R0.out.flat (fun _ => rfl) (by omega) j v (by rw [← rowVals_flat]; exact hv)
      intro x w2 hx hg1
      have hbr : Below wr.heap.size wr w2 := belowGrown hg1
      obtain ⟨xa, xcap, hxv⟩ : ∃ xa xcap, x = .slice xa r.length xcap := by
        rcases hx.2 with ⟨e, h0⟩ | ⟨g, cp, _, e, _⟩
        · exact ⟨none, 0, by rw [e, h0]⟩
        · exact ⟨_, _, e⟩
      subst hxv
      have HXB := Lib.hid hx
      have hx2 := ownsRow_le hx hBr
      clear hx hg1
      have hO1 := ownsRow_keep HO1.out hbr
      have hO3 : ∀ i, i < (m.take k).length → w2.ownsRow B 3 1 (us'.getD i .nilIface) ((m.take k).getD i []).length (rowVals ((m.take k).getD i [])) := fun i hi => ownsRow_keep (HO3.out i hi) hbr
      have HX2 := Lib.hid hx2
      have HQ1 := Lib.hid hO1
      have HQ3 := Lib.hid hO3
      have HBR := Lib.hid hbr
      clear hx2 hO1 hO3 hbr c0
      go_wp2_with (at_builtin; go_must (refine wpList_append_own _ rfl _ _ 23 rfl B 43 i0 (.slice none 0 0) 1 24 Try.underlying23 hi hz0 hz1 hz2 rfl (by decide) _ us'.length us' rfl (HQ1.out.alloc _) ⟨w2.heap.size, 0, none⟩ 1 1 [.slice xa r.length xcap] rfl rfl ?_ (by intro v hv; simp at hv; subst hv; rfl) (by unfold maxLen; omega) (by omega) (by have := HBR.out.size; simp; omega) ?_))
      · intro j v hv
        match j, hv with
        | 0, hv => simp at hv; subst hv; simp [Addr.add]
      · intro v' w3 hown3 hgrow3 _
        have R := OwnRows.snoc (te := 43) (ti := 3) (by decide) (HQ1.out.alloc (.cells #[.slice xa r.length xcap] 43)) HO2.out (fun i hi => (HQ3.out i hi).alloc _) HO4.out (HX2.out.alloc _) (fun i hi j hj hx => by have h1 := ((HO3.out i hi).lt j hj).2; have h2 := (HXB.out.lt j hx).1; omega) hown3 hgrow3
        have hb3 : Below B w w3 := by
          refine Below.grown (hb.out.trans ((HBR.out.mono hBr).trans ((Below.refl _ _).alloc (by have := HBR.out.size; omega) _))) hgrow3 (by have := HBR.out.size; simp; omega) (fun j hj => ?_)
          exact (HQ1.out.lt j hj).1
        have HR3 := Lib.hid R
        have HB3 := Lib.hid hb3
        clear hown3 hgrow3 R hb3
        go_wp2_with fail
        go_roundw
        case rel =>
          refine ⟨k + 1, by omega, by go_num, ?_, HB3⟩
          have e : m.take (k + 1) = m.take k ++ [r] := by
            have h1 := HN.out
            rw [List.take_succ_eq_append_getElem (by omega), HRR.out]
            simp [List.getD, show k < m.length by omega]
          show OwnC w3 B v' (m.take (k + 1))
          rw [e]
          exact HR3.out
        case measure => simp [intOf]; omega
    · obtain rfl : k = n := by omega
      have hlt' : ¬ (k : Int) < (k : Int) := by omega
      go_wp2_with fail
      go_ret
      refine ⟨_, rfl, ?_, ?_⟩
      · have e : m.take k = m := by rw [HN.out]; exact List.take_length
        have h1 := hown.out
        rw [e, HB.out] at h1
        exact h1
      · rw [← HB.out]; exact hb.out

theorem refTwin_none (a : Option Addr) (cap : Nat) (w : World) : Calls Try.prog 42 #[.slice a 0 cap] w (TwinEnd [] w) := by
  go_enter Try.func42, Try.ntmps42
  go_wp2_with fail
  refine wp_loop_rounds 1 ?_
  rw [rounds_succ]
  go_wp2
  go_ret
  exact ⟨_, rfl, OwnRows.nil _ _ _ _, Below.refl _ _⟩

theorem refTwin_any {v : Value} {m : List (List Int)} {w : World} (h : RowsR w v m) (hf : few m) : Calls Try.prog 42 #[v] w (TwinEnd m w) := by
  obtain ⟨us, h1, h2, h3⟩ := h
  obtain ⟨a, cap, rfl, hcap, hm, _, hc⟩ := h1.one (c := fun u => u) .nilIface
  by_cases hl : us.length = 0
  · have : m = [] := List.length_eq_zero_iff.1 (by omega)
    subst this
    rw [hl]
    exact refTwin_none a cap w
  · obtain ⟨b, off, rfl, hd⟩ := hc (by omega)
    exact refTwin_some b off _ cap us m w h2 hcap (by rw [h2]; exact hf.1) hf.2 hd (fun i hi => h3 i (by omega))

set_option maxHeartbeats 1000000 in
theorem refSet_yes {v : Value} {m : List (List Int)} (t k n : Int) {w : World} (h : RowsR w v m) (hok : okC m = true) (h1 : 0 ≤ t) (h2 : t < 4) (h3 : 0 ≤ k) (h4 : k < 8) (h5 : 0 ≤ n) (h6 : n ≤ 1073741824) :
    Calls Try.prog 52 #[v, .int .i64 t, .int .i64 k, .int .i64 n] w (SetYes m t k n w) := by
  have K := refAsked_any t k h
  have e : askC m t k = 0 := by simp [askC, hok, inTW, h1, h2, h3, h4]
  rw [e] at K
  have HK := Lib.hid K
  have H0 := Lib.hid h
  have HOK := Lib.hid hok
  obtain ⟨a, na, cap, rfl⟩ := h.shape
  clear K e hok h
  go_enter Try.func52, Try.ntmps52
  go_wp2_with fail
  refine HK.out.mono ?_
  rintro e w1 ⟨rfl, rfl⟩
  go_wp2_with fail
  refine (refTwin_any H0.out (okC_few HOK.out)).mono ?_
  rintro e w2 ⟨v', rfl, hown, hb2⟩
  obtain ⟨g, cap', gt, rcap, rfl, c1, c2, c3, hbg, hst⟩ := own_cells hown HOK.out h1 h2 h3 h4
  have HOWN := Lib.hid hown
  obtain ⟨x, hx⟩ : ∃ x, x = getC m t k := ⟨_, rfl⟩
  rw [← hx] at c2
  have HX := Lib.hid hx
  have HST := Lib.hid hst
  have HB := Lib.hid hb2
  clear hx hst hown
  have t1 : (t : Int) < ((4 : Nat) : Int) := by omega
  have k1 : (k : Int) < ((8 : Nat) : Int) := by omega
  by_cases hxn : x < n
  · go_wp2_with fail
    go_ret2
    refine ⟨_, rfl, ?_, hb2.setCell (p := ⟨gt, k.toNat, none⟩) hbg _⟩
    have e : setC m t k n = m.set t.toNat ((m.getD t.toNat []).set k.toNat (max x n)) := by rw [HX.out]; rfl
    rw [e, show max x n = n by omega]
    exact HST.out n
  · go_wp2_with fail
    go_ret2
    refine ⟨_, rfl, ?_, hb2⟩
    have e : setC m t k n = m.set t.toNat ((m.getD t.toNat []).set k.toNat (max x n)) := by rw [HX.out]; rfl
    obtain ⟨hl, hr⟩ := okC_spec HOK.out
    have e2 : m.set t.toNat ((m.getD t.toNat []).set k.toNat x) = m := by
      have htl : t.toNat < m.length := by omega
      have hkl : k.toNat < (m[t.toNat]).length := by rw [(hr _ (List.getElem_mem htl)).1]; omega
      have e3 : x = m[t.toNat][k.toNat] := by rw [HX.out]; simp [getC, List.getD, htl, hkl]
      rw [e3]
      simp [List.getD, htl]
    rw [e, show max x n = x by omega, e2]
    exact HOWN.out

theorem refSet_no {v : Value} {m : List (List Int)} (t k n : Int) {w : World} (h : RowsR w v m) (c : Int) (hc : (askC m t k ≠ 0 ∧ c = askC m t k) ∨ (askC m t k = 0 ∧ ¬ (0 ≤ n ∧ n ≤ 1073741824) ∧ c = 2)) :
    Calls Try.prog 52 #[v, .int .i64 t, .int .i64 k, .int .i64 n] w fun e w' => e = .returned (.tuple #[.slice none 0 0, .int .i64 c]) ∧ w = w' := by
  have K := refAsked_any t k h
  obtain ⟨a, na, cap, rfl⟩ := h.shape
  clear h
  rcases hc with ⟨h1, rfl⟩ | ⟨h1, h2, rfl⟩
  · obtain ⟨c, hc⟩ : ∃ c, c = askC m t k := ⟨_, rfl⟩
    rw [← hc] at K h1 ⊢
    have hd : (c != 0) = true := by simpa using h1
    have hd2 : (c == 0) = false := by simpa using h1
    have HK := Lib.hid K
    clear K hc h1
    go_enter Try.func52, Try.ntmps52
    go_wp2_with fail
    refine HK.out.mono ?_
    rintro e w1 ⟨rfl, rfl⟩
    go_wp2_with fail
    go_ret2
    exact ⟨rfl, rfl⟩
  · rw [h1] at K
    have HK := Lib.hid K
    clear K h1
    by_cases h3 : n < 0
    · clear h2
      go_enter Try.func52, Try.ntmps52
      go_wp2_with fail
      refine HK.out.mono ?_
      rintro e w1 ⟨rfl, rfl⟩
      go_wp2_with fail
      go_ret2
      exact ⟨rfl, rfl⟩
    · have h4 : 1073741824 < n := by omega
      clear h2
      go_enter Try.func52, Try.ntmps52
      go_wp2_with fail
      refine HK.out.mono ?_
      rintro e w1 ⟨rfl, rfl⟩
      go_wp2_with fail
      go_ret2
      exact ⟨rfl, rfl⟩
end Go.Proofs.Ytblgmjbajnkcdab
/-
  The document's New. No condition.
-/
namespace Go.Proofs.Ytblgmjbajnkcdab
open Go.RowKit

set_option maxHeartbeats 1000000 in
theorem refNew_any (w : World) : Calls Try.prog 63 #[] w (NewEnd w) := by
  obtain ⟨i0, hi, hz0, hz1, hz2⟩ := info_parts info_row
  obtain ⟨i1, gi, gz0, gz1, gz2⟩ := info_parts info_int
  obtain ⟨B, hB⟩ : ∃ B, B = w.heap.size := ⟨_, rfl⟩
  have HB := Lib.hid hB
  clear hB
  go_enter Try.func63, Try.ntmps63
  go_wp2_with fail
  go_loopw [1, 2] (fun o i wr => ∃ k : Nat, k ≤ 4 ∧ i = .int .i64 (k : Int) ∧ Hid (OwnC wr B o (List.replicate k (List.replicate 8 0))) ∧ Hid (Below B w wr)) (fun _ i _ => 4 - (intOf i).toNat)
  case atStart => exact ⟨0, Nat.zero_le _, rfl, OwnRows.nil _ _ _ _, Below.refl _ _⟩
  case round =>
    obtain ⟨k, hk, rfl, hown, hb⟩ := hrel
    by_cases hlt : k < 4
    · have hk0 : (0 : Int) ≤ (k : Int) := by omega
      have hk1 : (k : Int) < 4 := by omega
      have hbw : Below w.heap.size w wr := by rw [← HB.out]; exact hb.out
      have hBr : B ≤ wr.heap.size := by rw [HB.out]; exact hbw.size
      obtain ⟨us', h1, h2, h3, h4⟩ := hown.out
      have HO1 := Lib.hid h1
      have HO2 := Lib.hid h2
      have HO3 := Lib.hid h3
      have HO4 := Lib.hid h4
      have hul : us'.length ≤ 4 := by
        rw [h2, List.length_replicate]
        omega
      clear hown h1 h2 h3 h4 hbw
      go_wp2_with (at_make; go_must (refine wpList_make_full _ rfl _ _ 43 rfl B 3 i1 (.int .i64 0) 1 Try.underlying43 gi gz0 gz1 .i64 .i64 _ _ 8 rfl rfl rfl rfl (by rw [gz2]; omega) (by unfold maxLen; omega) hBr ?_))
      intro w1 hx hg1
      rw [rowVals_zero] at hx
      have hbr := belowGrown hg1
      have HX2 := Lib.hid hx
      have HQ1 := Lib.hid (ownsRow_keep HO1.out hbr)
      have HQ3 := Lib.hid (fun i hi => ownsRow_keep (HO3.out i hi) hbr)
      have HBR := Lib.hid hbr
      clear hx hg1 hbr
      go_wp2_with (at_builtin; go_must (refine wpList_append_own _ rfl _ _ 23 rfl B 43 i0 (.slice none 0 0) 1 24 Try.underlying23 hi hz0 hz1 hz2 rfl (by decide) _ us'.length us' rfl (HQ1.out.alloc _) ⟨w1.heap.size, 0, none⟩ 1 1 [.slice (some ⟨wr.heap.size, 0, none⟩) 8 8] rfl rfl ?_ (by intro v hv; simp at hv; subst hv; rfl) (by unfold maxLen; omega) (by omega) (by have := HBR.out.size; simp; omega) ?_))
      · intro j v hv
        match j, hv with
        | 0, hv => simp at hv; subst hv; simp [Addr.add]
      · intro v' w3 hown3 hgrow3 _
        have R := OwnRows.snoc (te := 43) (ti := 3) (r := List.replicate 8 0) (by decide) (HQ1.out.alloc (.cells #[.slice (some ⟨wr.heap.size, 0, none⟩) 8 8] 43)) HO2.out (fun i hi => (HQ3.out i hi).alloc _) HO4.out (HX2.out.alloc _) (fun i hi j hj => by have := ((HO3.out i hi).lt j hj).2; simp only [Value.ownBlock, ne_eq, Option.some.injEq]; omega) hown3 hgrow3
        have hb3 : Below B w w3 := by
          refine Below.grown (hb.out.trans ((HBR.out.mono hBr).trans ((Below.refl _ _).alloc (by have := HBR.out.size; omega) _))) hgrow3 (by have := HBR.out.size; simp; omega) (fun j hj => ?_)
          exact (HQ1.out.lt j hj).1
        have HR3 := Lib.hid R
        have HB3 := Lib.hid hb3
        clear hown3 hgrow3 R hb3
        go_wp2_with fail
        go_roundw
        case rel =>
          refine ⟨k + 1, by omega, by go_num, ?_, HB3⟩
          show OwnC w3 B v' (List.replicate (k + 1) (List.replicate 8 0))
          rw [List.replicate_succ']
          exact HR3.out
        case measure => simp [intOf]; omega
    · obtain rfl : k = 4 := by omega
      go_wp2_with fail
      go_ret
      refine ⟨_, rfl, ?_, ?_⟩
      · have h1 := hown.out
        rw [HB.out] at h1
        exact h1
      · rw [← HB.out]; exact hb.out

end Go.Proofs.Ytblgmjbajnkcdab
/-
  slices.Equal at numbers, slices.EqualFunc at rows of numbers, commits.Same. No condition but that the slices read.
-/
namespace Go.Proofs.Ytblgmjbajnkcdab
open Go.RowKit

theorem list_eq_of {α : Type} {l l' : List α} (d : α) (hl : l.length = l'.length) (h : ∀ j, j < l.length → l.getD j d = l'.getD j d) : l = l' := by
  apply List.ext_getElem hl
  intro i h1 h2
  have := h i h1
  simpa [List.getD, h1, h2] using this

theorem eqInt_len (a a' : Option Addr) (n n' cap cap' : Nat) (w : World) (h : n ≠ n') :
    Calls Try.prog 93 #[.slice a n cap, .slice a' n' cap'] w fun e w' => e = .returned (.bool false) ∧ Below w.heap.size w w' := by
  have hd : ((n : Int) != (n' : Int)) = true := by simp; omega
  go_enter Try.func93, Try.ntmps93
  go_wp2_with fail
  go_ret
  exact ⟨rfl, Below.refl _ _⟩
theorem eqInt_none (a a' : Option Addr) (cap cap' : Nat) (w : World) :
    Calls Try.prog 93 #[.slice a 0 cap, .slice a' 0 cap'] w fun e w' => e = .returned (.bool true) ∧ Below w.heap.size w w' := by
  go_enter Try.func93, Try.ntmps93
  go_wp2_with fail
  refine wp_loop_rounds 1 ?_
  rw [rounds_succ]
  go_wp2
  go_ret
  exact ⟨rfl, Below.refl _ _⟩

set_option maxHeartbeats 1000000 in
theorem eqInt_some (b off cap b' off' cap' n : Nat) (l l' : List Int) (w : World) (hl : 0 < n) (hn : n = l.length) (hn2 : n = l'.length) (hcap : n ≤ cap) (hm : cap ≤ 9223372036854775807) (hcap' : n ≤ cap')
    (hc : ∀ i, i < n → w.cell? ⟨b, off + i, none⟩ = some (.int .i64 (l.getD i 0))) (hc' : ∀ i, i < n → w.cell? ⟨b', off' + i, none⟩ = some (.int .i64 (l'.getD i 0))) :
    Calls Try.prog 93 #[.slice (some ⟨b, off, none⟩) n cap, .slice (some ⟨b', off', none⟩) n cap'] w fun e w' => e = .returned (.bool (decide (l = l'))) ∧ Below w.heap.size w w' := by
  have HC := Lib.hid hc
  have HC' := Lib.hid hc'
  have HN := Lib.hid hn
  have HN2 := Lib.hid hn2
  obtain ⟨r, hr⟩ : ∃ r, r = decide (l = l') := ⟨_, rfl⟩
  rw [← hr]
  have HR := Lib.hid hr
  clear hn hn2 hc hc' hr
  have nn : ((n : Int) != (n : Int)) = false := by simp
  have hn' : (n : Int) ≤ 9223372036854775807 := by omega
  go_enter Try.func93, Try.ntmps93
  go_wp2_with fail
  go_loopw [5, 13] (fun _ i wr => ∃ k : Nat, k ≤ n ∧ i = .int .i64 (k : Int) ∧ Hid (∀ j, j < k → l.getD j 0 = l'.getD j 0) ∧ Below w.heap.size w wr) (fun _ i _ => n - (intOf i).toNat)
  case atStart => exact ⟨0, Nat.zero_le _, rfl, (fun j hj => absurd hj (Nat.not_lt_zero _)), Below.refl _ _⟩
  case round =>
    obtain ⟨k, hk, rfl, hall, hb⟩ := hrel
    by_cases hlt : k < n
    · have hk0 : (0 : Int) ≤ (k : Int) := by omega
      have hk1 : (k : Int) < (n : Int) := by omega
      have c0 := keep hb (HC.out k hlt)
      have c1 := keep hb (HC'.out k hlt)
      obtain ⟨x, hx⟩ : ∃ x, x = l.getD k 0 := ⟨_, rfl⟩
      obtain ⟨y, hy⟩ : ∃ y, y = l'.getD k 0 := ⟨_, rfl⟩
      rw [← hx] at c0
      rw [← hy] at c1
      have HX := Lib.hid hx
      have HY := Lib.hid hy
      clear hx hy
      by_cases hxy : x = y
      · have hd : (x != y) = false := by simpa using hxy
        have HXY := Lib.hid hxy
        clear hxy
        go_wp2_with fail
        refine wp_region_class (fun w' => (w'.cell? ⟨b, off + k, none⟩ = some (.int .i64 x) ∧ w'.cell? ⟨b', off' + k, none⟩ = some (.int .i64 y)) ∧ Below w.heap.size w w') (by kernel_rfl) (by kernel_rfl) ⟨⟨by simpa using c0, by simpa using c1⟩, hb.drew⟩ ?_
        repeat
          with_reducible refine wpQuiet_step (fun K hK => ?_)
          first
            | refine quiet_not (by rfl) (hK _ ?_)
            | refine quiet_any (by rfl) ?_
              apply Exists.intro
              refine ⟨fun wq hq => ?_, hK _ ?_⟩
              · obtain ⟨⟨k0, k1⟩, kb⟩ := hq
                go_simp
                first
                  | done
                  | (with_reducible rfl)
                  | (fail)
          clear hK K
          simp only [Act.put, List.setIfInBounds_toArray, List.set_cons_zero, List.set_cons_succ]
        refine wpQuiet_nil ?_
        intro wq hq
        have hbq := hq.2
        clear hq
        go_wp2_with fail
        go_roundw
        case rel =>
          refine ⟨k + 1, by omega, by go_num, fun j hj => ?_, hbq⟩
          by_cases hjk : j < k
          · exact hall.out j hjk
          · obtain rfl : j = k := by omega
            rw [← HX.out, ← HY.out]; exact HXY.out
        case measure => simp [intOf]; omega
      · have hd : (x != y) = true := by simpa using hxy
        have HXY := Lib.hid hxy
        clear hxy
        go_wp2_with fail
        refine wp_region_class (fun w' => (w'.cell? ⟨b, off + k, none⟩ = some (.int .i64 x) ∧ w'.cell? ⟨b', off' + k, none⟩ = some (.int .i64 y)) ∧ Below w.heap.size w w') (by kernel_rfl) (by kernel_rfl) ⟨⟨by simpa using c0, by simpa using c1⟩, hb.drew⟩ ?_
        repeat
          with_reducible refine wpQuiet_step (fun K hK => ?_)
          first
            | refine quiet_not (by rfl) (hK _ ?_)
            | refine quiet_any (by rfl) ?_
              apply Exists.intro
              refine ⟨fun wq hq => ?_, hK _ ?_⟩
              · obtain ⟨⟨k0, k1⟩, kb⟩ := hq
                go_simp
                first
                  | done
                  | (with_reducible rfl)
                  | (fail)
          clear hK K
          simp only [Act.put, List.setIfInBounds_toArray, List.set_cons_zero, List.set_cons_succ]
        refine wpQuiet_nil ?_
        intro wq hq
        have hbq := hq.2
        clear hq
        go_wp2_with fail
        go_ret
        refine ⟨?_, hbq⟩
        have e : r = false := by
          rw [HR.out]
          refine decide_eq_false (fun e => HXY.out ?_)
          rw [HX.out, HY.out, e]
        rw [e]
        rfl
    · obtain rfl : k = n := by omega
      have hlt' : ¬ (k : Int) < (k : Int) := by omega
      go_wp2_with fail
      go_ret
      refine ⟨?_, hb⟩
      have e : r = true := by
        rw [HR.out]
        refine decide_eq_true (list_eq_of 0 (by rw [← HN.out, HN2.out]) (fun j hj => hall.out j (by rw [HN.out]; exact hj)))
      rw [e]
      rfl

theorem eqInt_any {v v' : Value} {l l' : List Int} {w : World} (h : SliceR w v 1 intCell l) (h' : SliceR w v' 1 intCell l') :
    Calls Try.prog 93 #[v, v'] w fun e w' => e = .returned (.bool (decide (l = l'))) ∧ Below w.heap.size w w' := by
  obtain ⟨a, cap, rfl, hcap, hm, _, hc⟩ := h.one (c := fun n => .int .i64 n) 0
  obtain ⟨a', cap', rfl, hcap', hm', _, hc'⟩ := h'.one (c := fun n => .int .i64 n) 0
  by_cases hl : l.length = l'.length
  · by_cases h0 : l.length = 0
    · have e1 : l = [] := List.length_eq_zero_iff.1 h0
      have e2 : l' = [] := List.length_eq_zero_iff.1 (by omega)
      subst e1 e2
      simpa using eqInt_none a a' cap cap' w
    · obtain ⟨b, off, rfl, hd⟩ := hc (by omega)
      obtain ⟨b', off', rfl, hd'⟩ := hc' (by omega)
      unfold maxLen at hm
      rw [← hl]
      exact eqInt_some b off cap b' off' cap' _ l l' w (by omega) rfl hl hcap hm (by omega) hd (fun i hi => hd' i (by omega))
  · have e : decide (l = l') = false := decide_eq_false (fun e => hl (by rw [e]))
    rw [e]
    exact eqInt_len a a' _ _ cap cap' w hl

theorem same1_any {v v' : Value} {l l' : List Int} {w : World} (h : SliceR w v 1 intCell l) (h' : SliceR w v' 1 intCell l') :
    Calls Try.prog 92 #[v, v'] w fun e w' => e = .returned (.bool (decide (l = l'))) ∧ Below w.heap.size w w' := by
  have K := Lib.hid (eqInt_any h h')
  obtain ⟨a, cap, rfl, _⟩ := h
  obtain ⟨a', cap', rfl, _⟩ := h'
  obtain ⟨r, hr⟩ : ∃ r, r = decide (l = l') := ⟨_, rfl⟩
  rw [← hr] at K ⊢
  clear hr
  obtain ⟨n, hn⟩ : ∃ n, n = l.length := ⟨_, rfl⟩
  obtain ⟨n', hn'⟩ : ∃ n, n = l'.length := ⟨_, rfl⟩
  rw [← hn, ← hn'] at K
  rw [← hn, ← hn']
  clear hn hn'
  go_enter Try.func92, Try.ntmps92
  go_wp2_with fail
  refine K.out.mono ?_
  rintro e w1 ⟨rfl, hb⟩
  go_wp2_with fail
  go_ret
  exact ⟨rfl, hb⟩

/-! ### Rows -/

theorem eqRow_len (a a' : Option Addr) (n n' cap cap' : Nat) (f : Value) (w : World) (h : n ≠ n') :
    Calls Try.prog 91 #[.slice a n cap, .slice a' n' cap', f] w fun e w' => e = .returned (.bool false) ∧ Below w.heap.size w w' := by
  have hd : ((n : Int) != (n' : Int)) = true := by simp; omega
  go_enter Try.func91, Try.ntmps91
  go_wp2_with fail
  go_ret
  exact ⟨rfl, Below.refl _ _⟩
theorem eqRow_none (a a' : Option Addr) (cap cap' : Nat) (f : Value) (w : World) :
    Calls Try.prog 91 #[.slice a 0 cap, .slice a' 0 cap', f] w fun e w' => e = .returned (.bool true) ∧ Below w.heap.size w w' := by
  go_enter Try.func91, Try.ntmps91
  go_wp2_with fail
  refine wp_loop_rounds 1 ?_
  rw [rounds_succ]
  go_wp2
  go_ret
  exact ⟨rfl, Below.refl _ _⟩

set_option maxHeartbeats 1000000 in
theorem eqRow_some (b off cap b' off' cap' n : Nat) (us us' : List Value) (m m' : List (List Int)) (w : World) (hl : 0 < n) (hn : n = m.length) (hn2 : n = m'.length) (hcap : n ≤ cap) (hm : cap ≤ 9223372036854775807) (hcap' : n ≤ cap')
    (hc : ∀ i, i < n → w.cell? ⟨b, off + i, none⟩ = some (us.getD i .nilIface)) (hc' : ∀ i, i < n → w.cell? ⟨b', off' + i, none⟩ = some (us'.getD i .nilIface))
    (hr : ∀ i, i < n → SliceR w (us.getD i .nilIface) 1 intCell (m.getD i [])) (hr' : ∀ i, i < n → SliceR w (us'.getD i .nilIface) 1 intCell (m'.getD i [])) :
    Calls Try.prog 91 #[.slice (some ⟨b, off, none⟩) n cap, .slice (some ⟨b', off', none⟩) n cap', .func (.func 92) #[] #[]] w fun e w' => e = .returned (.bool (decide (m = m'))) ∧ Below w.heap.size w w' := by
  have HC := Lib.hid hc
  have HC' := Lib.hid hc'
  have HR := Lib.hid hr
  have HR' := Lib.hid hr'
  have HN := Lib.hid hn
  have HN2 := Lib.hid hn2
  obtain ⟨r, hr⟩ : ∃ r, r = decide (m = m') := ⟨_, rfl⟩
  rw [← hr]
  have HRR := Lib.hid hr
  clear hn hn2 hc hc' hr hr'
  have nn : ((n : Int) != (n : Int)) = false := by simp
  have hn' : (n : Int) ≤ 9223372036854775807 := by omega
  go_enter Try.func91, Try.ntmps91
  go_wp2_with fail
  go_loopw [7, 8, 9, 17] (fun _ _ _ i wr => ∃ k : Nat, k ≤ n ∧ i = .int .i64 (k : Int) ∧ Hid (∀ j, j < k → m.getD j [] = m'.getD j []) ∧ Below w.heap.size w wr) (fun _ _ _ i _ => n - (intOf i).toNat)
  case atStart => exact ⟨0, Nat.zero_le _, rfl, (fun j hj => absurd hj (Nat.not_lt_zero _)), Below.refl _ _⟩
  case round =>
    obtain ⟨k, hk, rfl, hall, hb⟩ := hrel
    by_cases hlt : k < n
    · have hk0 : (0 : Int) ≤ (k : Int) := by omega
      have hk1 : (k : Int) < (n : Int) := by omega
      have c0 := keep hb (HC.out k hlt)
      have c1 := keep hb (HC'.out k hlt)
      have r0 := (HR.out k hlt).below (fun _ => rfl) hb
      have r1 := (HR'.out k hlt).below (fun _ => rfl) hb
      obtain ⟨x, hx⟩ : ∃ x, x = m.getD k [] := ⟨_, rfl⟩
      obtain ⟨y, hy⟩ : ∃ y, y = m'.getD k [] := ⟨_, rfl⟩
      obtain ⟨u, hu⟩ : ∃ u, u = us.getD k .nilIface := ⟨_, rfl⟩
      obtain ⟨u', hu'⟩ : ∃ u, u = us'.getD k .nilIface := ⟨_, rfl⟩
      rw [← hx, ← hu] at r0
      rw [← hy, ← hu'] at r1
      rw [← hu] at c0
      rw [← hu'] at c1
      have HX := Lib.hid hx
      have HY := Lib.hid hy
      have L := same1_any r0 r1
      obtain ⟨ua, ucap, hua, _⟩ := r0
      obtain ⟨ua', ucap', hua', _⟩ := r1
      clear hx hy hu hu'
      subst hua hua'
      obtain ⟨c, hc⟩ : ∃ c, c = decide (x = y) := ⟨_, rfl⟩
      rw [← hc] at L
      have HL := Lib.hid L
      have HXY := Lib.hid hc
      clear L hc
      obtain ⟨nx, hnx⟩ : ∃ n, n = x.length := ⟨_, rfl⟩
      obtain ⟨ny, hny⟩ : ∃ n, n = y.length := ⟨_, rfl⟩
      rw [← hnx, ← hny] at HL
      rw [← hnx] at c0
      rw [← hny] at c1
      clear hnx hny
      cases c
      · go_wp2_with fail
        refine HL.out.mono ?_
        rintro e w1 ⟨rfl, hb1⟩
        have hb2 := hb.trans (hb1.mono hb.size)
        go_wp2_with fail
        go_ret
        refine ⟨?_, hb2⟩
        have e : r = false := by
          rw [HRR.out]
          refine decide_eq_false (fun e => ?_)
          have h1 := of_decide_eq_false HXY.out.symm
          exact h1 (by rw [HX.out, HY.out, e])
        rw [e]
        rfl
      · go_wp2_with fail
        refine HL.out.mono ?_
        rintro e w1 ⟨rfl, hb1⟩
        have hb2 := hb.trans (hb1.mono hb.size)
        clear hb hb1 c0 c1
        go_wp2_with fail
        go_roundw
        case rel =>
          refine ⟨k + 1, by omega, by go_num, fun j hj => ?_, hb2⟩
          by_cases hjk : j < k
          · exact hall.out j hjk
          · obtain rfl : j = k := by omega
            rw [← HX.out, ← HY.out]; exact of_decide_eq_true HXY.out.symm
        case measure => simp [intOf]; omega
    · obtain rfl : k = n := by omega
      have hlt' : ¬ (k : Int) < (k : Int) := by omega
      go_wp2_with fail
      go_ret
      refine ⟨?_, hb⟩
      have e : r = true := by
        rw [HRR.out]
        refine decide_eq_true (list_eq_of [] (by rw [← HN.out, HN2.out]) (fun j hj => hall.out j (by rw [HN.out]; exact hj)))
      rw [e]
      rfl

theorem same_any {v v' : Value} {m m' : List (List Int)} {w : World} (h : RowsR w v m) (h' : RowsR w v' m') :
    Calls Try.prog 66 #[v, v'] w fun e w' => e = .returned (.bool (decide (m = m'))) ∧ Below w.heap.size w w' := by
  obtain ⟨us, h1, h2, h3⟩ := h
  obtain ⟨us', h1', h2', h3'⟩ := h'
  obtain ⟨a, cap, rfl, hcap, hm, _, hc⟩ := h1.one (c := fun u => u) .nilIface
  obtain ⟨a', cap', rfl, hcap', hm', _, hc'⟩ := h1'.one (c := fun u => u) .nilIface
  have K : Calls Try.prog 91 #[.slice a us.length cap, .slice a' us'.length cap', .func (.func 92) #[] #[]] w fun e w' => e = .returned (.bool (decide (m = m'))) ∧ Below w.heap.size w w' := by
    by_cases hl : us.length = us'.length
    · by_cases h0 : us.length = 0
      · have e1 : m = [] := List.length_eq_zero_iff.1 (by omega)
        have e2 : m' = [] := List.length_eq_zero_iff.1 (by omega)
        rw [← hl, h0, e1, e2]
        exact eqRow_none a a' cap cap' _ w
      · obtain ⟨b, off, rfl, hd⟩ := hc (by omega)
        obtain ⟨b', off', rfl, hd'⟩ := hc' (by omega)
        unfold maxLen at hm
        rw [← hl]
        exact eqRow_some b off cap b' off' cap' _ us us' m m' w (by omega) h2 (by omega) hcap hm (by omega) hd (fun i hi => hd' i (by omega)) (fun i hi => h3 i (by omega)) (fun i hi => h3' i (by omega))
    · have e : decide (m = m') = false := decide_eq_false (fun e => hl (by rw [h2, h2', e]))
      rw [e]
      exact eqRow_len a a' _ _ cap cap' _ w hl
  have HK := Lib.hid K
  obtain ⟨r, hr⟩ : ∃ r, r = decide (m = m') := ⟨_, rfl⟩
  rw [← hr] at HK ⊢
  clear hr K hc hc' h3 h3' h1 h1' h2 h2' hcap hcap' hm hm'
  go_enter Try.func66, Try.ntmps66
  go_wp2_with fail
  refine HK.out.mono ?_
  rintro e w1 ⟨rfl, hb⟩
  go_wp2_with fail
  go_ret
  exact ⟨rfl, hb⟩

end Go.Proofs.Ytblgmjbajnkcdab
/-
  The document's Same for commits. No condition but that the slices read.
-/
namespace Go.Proofs.Ytblgmjbajnkcdab
open Go.RowKit

theorem refSameC_len (a a' : Option Addr) (n n' cap cap' : Nat) (w : World) (h : n ≠ n') :
    Calls Try.prog 48 #[.slice a n cap, .slice a' n' cap'] w fun e w' => e = .returned (.bool false) ∧ Below w.heap.size w w' := by
  have hd : ((n : Int) != (n' : Int)) = true := by simp; omega
  go_enter Try.func48, Try.ntmps48
  go_wp2_with fail
  go_ret
  exact ⟨rfl, Below.refl _ _⟩
theorem refSameC_none (a a' : Option Addr) (cap cap' : Nat) (w : World) :
    Calls Try.prog 48 #[.slice a 0 cap, .slice a' 0 cap'] w fun e w' => e = .returned (.bool true) ∧ Below w.heap.size w w' := by
  go_enter Try.func48, Try.ntmps48
  go_wp2_with fail
  refine wp_loop_rounds 1 ?_
  rw [rounds_succ]
  go_wp2
  go_ret
  exact ⟨rfl, Below.refl _ _⟩

set_option maxHeartbeats 4000000 in
theorem refSameC_some (b off cap b' off' cap' n : Nat) (us us' : List Value) (m m' : List (List Int)) (w : World) (hl : 0 < n) (hn : n = m.length) (hn2 : n = m'.length) (hcap : n ≤ cap) (hm : cap ≤ 9223372036854775807) (hcap' : n ≤ cap')
    (hc : ∀ i, i < n → w.cell? ⟨b, off + i, none⟩ = some (us.getD i .nilIface)) (hc' : ∀ i, i < n → w.cell? ⟨b', off' + i, none⟩ = some (us'.getD i .nilIface))
    (hr : ∀ i, i < n → SliceR w (us.getD i .nilIface) 1 intCell (m.getD i [])) (hr' : ∀ i, i < n → SliceR w (us'.getD i .nilIface) 1 intCell (m'.getD i [])) :
    Calls Try.prog 48 #[.slice (some ⟨b, off, none⟩) n cap, .slice (some ⟨b', off', none⟩) n cap'] w fun e w' => e = .returned (.bool (decide (m = m'))) ∧ Below w.heap.size w w' := by
  have HC := Lib.hid hc
  have HC' := Lib.hid hc'
  have HR := Lib.hid hr
  have HR' := Lib.hid hr'
  have HN := Lib.hid hn
  have HN2 := Lib.hid hn2
  obtain ⟨z, hz⟩ : ∃ z, z = decide (m = m') := ⟨_, rfl⟩
  rw [← hz]
  have HZ := Lib.hid hz
  clear hn hn2 hc hc' hr hr' hz
  have nn : ((n : Int) != (n : Int)) = false := by simp
  have hn' : (n : Int) ≤ 9223372036854775807 := by omega
  go_enter Try.func48, Try.ntmps48
  go_wp2_with fail
  go_loopg [5] n (fun g i wr => ∃ k : Nat, k ≤ n ∧ g = n - k ∧ i = .int .i64 (k : Int) ∧ Hid (∀ j, j < k → m.getD j [] = m'.getD j []) ∧ Hid (Below w.heap.size w wr))
  case atStart => exact ⟨0, Nat.zero_le _, rfl, rfl, (fun j hj => absurd hj (Nat.not_lt_zero _)), Below.refl _ _⟩
  case round =>
    obtain ⟨k, hk, rfl, rfl, hall, hb⟩ := hrel
    by_cases hlt : k < n
    · have hk0 : (0 : Int) ≤ (k : Int) := by omega
      have hk1 : (k : Int) < (n : Int) := by omega
      have r0 := HR.out k hlt
      have r0' := HR'.out k hlt
      have c0 := HC.out k hlt
      have c0' := HC'.out k hlt
      obtain ⟨u, hu⟩ : ∃ u, u = us.getD k .nilIface := ⟨_, rfl⟩
      rw [← hu] at c0 r0
      clear hu
      obtain ⟨u', hu'⟩ : ∃ u', u' = us'.getD k .nilIface := ⟨_, rfl⟩
      rw [← hu'] at c0' r0'
      clear hu'
      obtain ⟨r, hr⟩ : ∃ r, r = m.getD k [] := ⟨_, rfl⟩
      rw [← hr] at r0
      obtain ⟨r', hr'⟩ : ∃ r', r' = m'.getD k [] := ⟨_, rfl⟩
      rw [← hr'] at r0'
      have HE := Lib.hid hr
      have HE' := Lib.hid hr'
      clear hr hr'
      obtain ⟨ua, ucap, hua, huc, huc2, _, hrc⟩ := r0.one (c := fun n => .int .i64 n) 0
      obtain ⟨ua', ucap', hua', huc', huc2', _, hrc'⟩ := r0'.one (c := fun n => .int .i64 n) 0
      subst hua hua'
      obtain ⟨rl, hrl⟩ : ∃ rl, rl = r.length := ⟨_, rfl⟩
      obtain ⟨rl', hrl'⟩ : ∃ rl', rl' = r'.length := ⟨_, rfl⟩
      rw [← hrl] at c0 hrc huc
      rw [← hrl'] at c0' hrc' huc'
      have HRL := Lib.hid hrl
      have HRL' := Lib.hid hrl'
      have HRC := Lib.hid hrc
      have HRC' := Lib.hid hrc'
      have C0 := Lib.hid c0
      have C0' := Lib.hid c0'
      have d0 := keep hb.out c0
      have d0' := keep hb.out c0'
      have hb2 := hb.out
      unfold maxLen at huc2
      clear hrl hrl' hrc hrc' c0 c0' r0 r0'
      by_cases hll : rl = rl'
      · subst hll
        have rr : ((rl : Int) != (rl : Int)) = false := by simp
        have hrn : (rl : Int) ≤ 9223372036854775807 := by omega
        go_wp2_with fail
        refine wp_region_class (fun w' => (w'.cell? ⟨b, off + k, none⟩ = some (.slice ua rl ucap) ∧ w'.cell? ⟨b', off' + k, none⟩ = some (.slice ua' rl ucap')) ∧ Below w.heap.size w w') (by kernel_rfl) (by kernel_rfl) ⟨⟨by simpa using d0, by simpa using d0'⟩, hb2.drew⟩ ?_
        repeat
          with_reducible refine wpQuiet_step (fun K hK => ?_)
          first
            | refine quiet_not (by rfl) (hK _ ?_)
            | refine quiet_any (by rfl) ?_
              apply Exists.intro
              refine ⟨fun wq hq => ?_, hK _ ?_⟩
              · obtain ⟨⟨k0, k1⟩, kb⟩ := hq
                go_simp
                first
                  | done
                  | (with_reducible rfl)
                  | (fail)
          clear hK K
          simp only [Act.put, List.setIfInBounds_toArray, List.set_cons_zero, List.set_cons_succ]
        refine wpQuiet_nil ?_
        intro wq hq
        have hbq := Lib.hid hq.2
        clear hq d0 d0' hb2 hb
        go_wp2_with fail
        go_loopg [6] rl (fun g j wi => ∃ q : Nat, q ≤ rl ∧ g = rl - q ∧ j = .int .i64 (q : Int) ∧ Hid (∀ i, i < q → r.getD i 0 = r'.getD i 0) ∧ Hid (Below w.heap.size w wi))
        case atStart => exact ⟨0, Nat.zero_le _, rfl, rfl, (fun j hj => absurd hj (Nat.not_lt_zero _)), hbq.out⟩
        case round =>
          obtain ⟨q, hq, rfl, rfl, hin, hbi⟩ := hrel
          have e0 := keep hbi.out C0.out
          have e0' := keep hbi.out C0'.out
          clear hbq
          by_cases hql : q < rl
          · have hq0 : (0 : Int) ≤ (q : Int) := by omega
            have hq1 : (q : Int) < (rl : Int) := by omega
            obtain ⟨rb, roff, hua, hrd⟩ := HRC.out (by omega)
            obtain ⟨rb', roff', hua', hrd'⟩ := HRC'.out (by omega)
            have c1 := keep hbi.out (hrd q hql)
            have c1' := keep hbi.out (hrd' q hql)
            clear HRC HRC' hrd hrd'
            subst hua hua'
            obtain ⟨x, hx⟩ : ∃ x, x = r.getD q 0 := ⟨_, rfl⟩
            obtain ⟨y, hy⟩ : ∃ y, y = r'.getD q 0 := ⟨_, rfl⟩
            rw [← hx] at c1
            rw [← hy] at c1'
            have HX := Lib.hid hx
            have HY := Lib.hid hy
            have hbi2 := hbi.out
            clear hx hy
            by_cases hxy : x = y
            · have hd : (x != y) = false := by simpa using hxy
              have HXY := Lib.hid hxy
              clear hxy
              go_wp2_with fail
              refine wp_region_class (fun w' => ((w'.cell? ⟨b, off + k, none⟩ = some (.slice (some ⟨rb, roff, none⟩) rl ucap) ∧ w'.cell? ⟨b', off' + k, none⟩ = some (.slice (some ⟨rb', roff', none⟩) rl ucap')) ∧ w'.cell? ⟨rb, roff + q, none⟩ = some (.int .i64 x) ∧ w'.cell? ⟨rb', roff' + q, none⟩ = some (.int .i64 y)) ∧ Below w.heap.size w w') (by kernel_rfl) (by kernel_rfl) ⟨⟨⟨by simpa using e0, by simpa using e0'⟩, by simpa using c1, by simpa using c1'⟩, hbi2.drew⟩ ?_
              repeat
                with_reducible refine wpQuiet_step (fun K hK => ?_)
                first
                  | refine quiet_not (by rfl) (hK _ ?_)
                  | refine quiet_any (by rfl) ?_
                    apply Exists.intro
                    refine ⟨fun wq hq => ?_, hK _ ?_⟩
                    · obtain ⟨⟨⟨k0, k1⟩, k2, k3⟩, kb⟩ := hq
                      go_simp
                      first
                        | done
                        | (with_reducible rfl)
                        | (fail)
                clear hK K
                simp only [Act.put, List.setIfInBounds_toArray, List.set_cons_zero, List.set_cons_succ]
              refine wpQuiet_nil ?_
              intro wq hq
              have hbq := Lib.hid hq.2
              clear hq hbi2 e0 e0' c1 c1'
              go_wp2_with fail
              go_roundg (rl - (q + 1))
              case measure => omega
              case rel =>
                refine ⟨q + 1, by omega, rfl, by go_num, fun j hj => ?_, hbq⟩
                by_cases hjq : j < q
                · exact hin.out j hjq
                · obtain rfl : j = q := by omega
                  rw [← HX.out, ← HY.out]; exact HXY.out
            · have hd : (x != y) = true := by simpa using hxy
              have HXY := Lib.hid hxy
              clear hxy
              go_wp2_with fail
              refine wp_region_class (fun w' => ((w'.cell? ⟨b, off + k, none⟩ = some (.slice (some ⟨rb, roff, none⟩) rl ucap) ∧ w'.cell? ⟨b', off' + k, none⟩ = some (.slice (some ⟨rb', roff', none⟩) rl ucap')) ∧ w'.cell? ⟨rb, roff + q, none⟩ = some (.int .i64 x) ∧ w'.cell? ⟨rb', roff' + q, none⟩ = some (.int .i64 y)) ∧ Below w.heap.size w w') (by kernel_rfl) (by kernel_rfl) ⟨⟨⟨by simpa using e0, by simpa using e0'⟩, by simpa using c1, by simpa using c1'⟩, hbi2.drew⟩ ?_
              repeat
                with_reducible refine wpQuiet_step (fun K hK => ?_)
                first
                  | refine quiet_not (by rfl) (hK _ ?_)
                  | refine quiet_any (by rfl) ?_
                    apply Exists.intro
                    refine ⟨fun wq hq => ?_, hK _ ?_⟩
                    · obtain ⟨⟨⟨k0, k1⟩, k2, k3⟩, kb⟩ := hq
                      go_simp
                      first
                        | done
                        | (with_reducible rfl)
                        | (fail)
                clear hK K
                simp only [Act.put, List.setIfInBounds_toArray, List.set_cons_zero, List.set_cons_succ]
              refine wpQuiet_nil ?_
              intro wq hq
              have hbq := Lib.hid hq.2
              clear hq hbi2 e0 e0' c1 c1'
              go_wp2_with fail
              go_ret
              refine ⟨?_, hbq.out⟩
              rw [HZ.out, decide_eq_false (fun e => HXY.out (by rw [HX.out, HY.out, HE.out, HE'.out, e]))]
              rfl
          · obtain rfl : q = rl := by omega
            have hlq : ¬ (q : Int) < (q : Int) := by omega
            go_wp2_with fail
            go_roundg (n - (k + 1))
            case measure => omega
            case rel =>
              refine ⟨k + 1, by omega, rfl, by go_num, fun j hj => ?_, hbi⟩
              by_cases hjk : j < k
              · exact hall.out j hjk
              · obtain rfl : j = k := by omega
                rw [← HE.out, ← HE'.out]
                exact list_eq_of 0 (by rw [← HRL.out, ← HRL'.out]) (by rw [← HRL.out]; exact hin.out)
      · have rr : ((rl : Int) != (rl' : Int)) = true := by simp; omega
        have hrn : (rl : Int) ≤ 9223372036854775807 := by omega
        have HLL := Lib.hid hll
        clear hll
        go_wp2_with fail
        refine wp_region_class (fun w' => (w'.cell? ⟨b, off + k, none⟩ = some (.slice ua rl ucap) ∧ w'.cell? ⟨b', off' + k, none⟩ = some (.slice ua' rl' ucap')) ∧ Below w.heap.size w w') (by kernel_rfl) (by kernel_rfl) ⟨⟨by simpa using d0, by simpa using d0'⟩, hb2.drew⟩ ?_
        repeat
          with_reducible refine wpQuiet_step (fun K hK => ?_)
          first
            | refine quiet_not (by rfl) (hK _ ?_)
            | refine quiet_any (by rfl) ?_
              apply Exists.intro
              refine ⟨fun wq hq => ?_, hK _ ?_⟩
              · obtain ⟨⟨k0, k1⟩, kb⟩ := hq
                go_simp
                first
                  | done
                  | (with_reducible rfl)
                  | (fail)
          clear hK K
          simp only [Act.put, List.setIfInBounds_toArray, List.set_cons_zero, List.set_cons_succ]
        refine wpQuiet_nil ?_
        intro wq hq
        have hbq := Lib.hid hq.2
        clear hq d0 d0' hb2 hb
        go_wp2_with fail
        go_ret
        refine ⟨?_, hbq.out⟩
        rw [HZ.out, decide_eq_false (fun e => HLL.out (by rw [HRL.out, HRL'.out, HE.out, HE'.out, e]))]
        rfl
    · obtain rfl : k = n := by omega
      have hlt' : ¬ (k : Int) < (k : Int) := by omega
      go_wp2_with fail
      go_ret
      refine ⟨?_, hb.out⟩
      rw [HZ.out, decide_eq_true (list_eq_of [] (by rw [← HN.out, ← HN2.out]) (by rw [← HN.out]; exact hall.out))]
      rfl

theorem refSameC_any {v v' : Value} {m m' : List (List Int)} {w : World} (h : RowsR w v m) (h' : RowsR w v' m') :
    Calls Try.prog 48 #[v, v'] w fun e w' => e = .returned (.bool (decide (m = m'))) ∧ Below w.heap.size w w' := by
  obtain ⟨us, h1, h2, h3⟩ := h
  obtain ⟨us', h1', h2', h3'⟩ := h'
  obtain ⟨a, cap, rfl, hcap, hm, _, hc⟩ := h1.one (c := fun u => u) .nilIface
  obtain ⟨a', cap', rfl, hcap', hm', _, hc'⟩ := h1'.one (c := fun u => u) .nilIface
  by_cases hl : us.length = us'.length
  · by_cases h0 : us.length = 0
    · have e1 : m = [] := List.length_eq_zero_iff.1 (by omega)
      have e2 : m' = [] := List.length_eq_zero_iff.1 (by omega)
      rw [← hl, h0, e1, e2]
      exact refSameC_none a a' cap cap' w
    · obtain ⟨b, off, rfl, hd⟩ := hc (by omega)
      obtain ⟨b', off', rfl, hd'⟩ := hc' (by omega)
      unfold maxLen at hm
      rw [← hl]
      exact refSameC_some b off cap b' off' cap' _ us us' m m' w (by omega) h2 (by omega) hcap hm (by omega) hd (fun i hi => hd' i (by omega)) (fun i hi => h3 i (by omega)) (fun i hi => h3' i (by omega))
  · have e : decide (m = m') = false := decide_eq_false (fun e => hl (by rw [h2, h2', e]))
    rw [e]
    exact refSameC_len a a' _ _ cap cap' w hl

end Go.Proofs.Ytblgmjbajnkcdab
/-
  The document's commits: are they more than statements go through, may they be. No condition but that the slices read.
-/
namespace Go.Proofs.Ytblgmjbajnkcdab
open Go.RowKit

def tot (m : List (List Int)) (k : Nat) : Nat := ((m.take k).map fun r => r.length + 1).sum
theorem tot_succ (m : List (List Int)) (k : Nat) (h : k < m.length) : tot m (k + 1) = tot m k + ((m.getD k []).length + 1) := by
  unfold tot
  rw [List.take_succ_eq_append_getElem h, List.map_append, List.sum_append]
  simp [List.getD, h]
theorem tot_few (m : List (List Int)) (h : tot m m.length ≤ 1000) : few m := by
  unfold tot at h
  rw [List.take_length] at h
  constructor
  · have : ∀ l : List (List Int), l.length ≤ (l.map fun r => r.length + 1).sum := by
      intro l
      induction l with
      | nil => simp
      | cons x l ih => simp; omega
    exact Nat.le_trans (this m) h
  · intro r hr
    have : ∀ l : List (List Int), r ∈ l → r.length ≤ (l.map fun r => r.length + 1).sum := by
      intro l
      induction l with
      | nil => simp
      | cons x l ih =>
        intro hm
        simp only [List.map_cons, List.sum_cons]
        rcases List.mem_cons.1 hm with rfl | h2
        · omega
        · have := ih h2; omega
    exact Nat.le_trans (this m hr) h

def GreatEnd (m : List (List Int)) (w : World) (e : Ending) (w' : World) : Prop := (∃ g, e = .returned (.bool g) ∧ (g = false → few m)) ∧ w = w'

theorem great_none (a : Option Addr) (cap : Nat) (w : World) : Calls Try.prog 41 #[.slice a 0 cap] w (GreatEnd [] w) := by
  go_enter Try.func41, Try.ntmps41
  go_wp2_with fail
  refine wp_loop_rounds 1 ?_
  rw [rounds_succ]
  go_wp2
  go_ret
  exact ⟨⟨false, rfl, fun _ => ⟨by simp, by simp⟩⟩, rfl⟩

set_option maxHeartbeats 1000000 in
theorem great_some (b off n cap : Nat) (us : List Value) (m : List (List Int)) (w : World) (hn : n = m.length) (hl : 0 < n) (hcap : n ≤ cap) (hm : cap ≤ 9223372036854775807) (hw : ∀ r ∈ m, r.length ≤ 17592186044416)
    (hc : ∀ i, i < n → w.cell? ⟨b, off + i, none⟩ = some (us.getD i .nilIface)) (hr : ∀ i, i < n → SliceR w (us.getD i .nilIface) 1 intCell (m.getD i [])) :
    Calls Try.prog 41 #[.slice (some ⟨b, off, none⟩) n cap] w (GreatEnd m w) := by
  have HC := Lib.hid hc
  have HR := Lib.hid hr
  have HN := Lib.hid hn
  have HW := Lib.hid hw
  clear hn hc hr hw
  have hn' : (n : Int) ≤ 9223372036854775807 := by omega
  go_enter Try.func41, Try.ntmps41
  go_wp2_with fail
  go_loop [3, 4] (fun t i => ∃ k s : Nat, k ≤ n ∧ i = .int .i64 (k : Int) ∧ t = .int .i64 (s : Int) ∧ s ≤ 20000000000000 ∧ Hid (s = tot m k)) (fun _ i => n - (intOf i).toNat)
  case atStart => exact ⟨0, 0, Nat.zero_le _, rfl, rfl, by omega, by rfl⟩
  case round =>
    obtain ⟨k, s, hk, rfl, rfl, hs, hst⟩ := hrel
    by_cases hlt : k < n
    · have hk0 : (0 : Int) ≤ (k : Int) := by omega
      have hk1 : (k : Int) < (n : Int) := by omega
      by_cases hsm : s ≤ 1000
      · have hs1 : (s : Int) ≤ 1000 := by omega
        have c0 := HC.out k hlt
        have r0 := HR.out k hlt
        obtain ⟨u, hu⟩ : ∃ u, u = us.getD k .nilIface := ⟨_, rfl⟩
        rw [← hu] at c0 r0
        clear hu
        obtain ⟨r, hr⟩ : ∃ r, r = m.getD k [] := ⟨_, rfl⟩
        rw [← hr] at r0
        have hrl : r.length ≤ 17592186044416 := by
          have h1 := HN.out
          have : m.getD k [] ∈ m := by
            have e : m.getD k [] = m[k]'(by omega) := by simp [List.getD, show k < m.length by omega]
            rw [e]; exact List.getElem_mem _
          rw [hr]
          exact HW.out _ this
        have HRR := Lib.hid hr
        clear hr
        obtain ⟨ua, ucap, hua, _⟩ := r0
        subst hua
        obtain ⟨rl, hrl'⟩ : ∃ rl, rl = r.length := ⟨_, rfl⟩
        rw [← hrl'] at c0 hrl
        have HRL := Lib.hid hrl'
        clear hrl'
        go_wp2_with fail
        go_round
        case rel =>
          refine ⟨k + 1, s + (rl + 1), by omega, by go_num, by go_num, by omega, ?_⟩
          show s + (rl + 1) = tot m (k + 1)
          have h1 := HN.out
          rw [tot_succ m k (by omega), hst.out, HRL.out, HRR.out]
        case measure => simp [intOf]; omega
      · have hs1 : ¬ (s : Int) ≤ 1000 := by omega
        have hd : decide ((1000 : Int) < (s : Int)) = true := by simp; omega
        go_wp2_with fail
        go_ret
        exact ⟨⟨true, by simp, fun h => by cases h⟩, rfl⟩
    · obtain rfl : k = n := by omega
      have hlt' : ¬ (k : Int) < (k : Int) := by omega
      go_wp2_with fail
      go_ret
      refine ⟨⟨decide ((1000 : Int) < (s : Int)), by simp, fun h => tot_few m ?_⟩, rfl⟩
      rw [← HN.out, ← hst.out]
      have h' : ¬ (1000 : Int) < (s : Int) := by simpa using h
      omega

theorem great_any {v : Value} {m : List (List Int)} {w : World} (h : RowsR w v m) (hw : ∀ r ∈ m, r.length ≤ 17592186044416) : Calls Try.prog 41 #[v] w (GreatEnd m w) := by
  obtain ⟨us, h1, h2, h3⟩ := h
  obtain ⟨a, cap, rfl, hcap, hm, _, hc⟩ := h1.one (c := fun u => u) .nilIface
  by_cases hl : us.length = 0
  · have : m = [] := List.length_eq_zero_iff.1 (by omega)
    subst this
    rw [hl]
    exact great_none a cap w
  · obtain ⟨b, off, rfl, hd⟩ := hc (by omega)
    unfold maxLen at hm
    exact great_some b off _ cap us m w h2 (by omega) hcap hm hw hd (fun i hi => h3 i (by omega))

end Go.Proofs.Ytblgmjbajnkcdab
