/-
  The document's commits: may they be, the error of commits, a topic and a consumer, how far one is. No condition but that the slices read.
-/
import Derived.Test.YthkgbfeljgdnaaaComSet
import Derived.Deep.LoopGhost
namespace Go.Proofs.Ythkgbfeljgdnaaa
open Go.RowKit

theorem okC_bad {m : List (List Int)} {k : Nat} (hk : k < m.length) (hb : rowBad (m.getD k []) = true) : okC m = false := by
  have e : m.getD k [] = m[k] := by simp [List.getD, hk]
  rw [e] at hb
  have : m.any rowBad = true := List.any_eq_true.2 ⟨_, List.getElem_mem hk, hb⟩
  simp [okC, this]
theorem okC_end {m : List (List Int)} (h : ∀ i, i < m.length → rowBad (m.getD i []) = false) : okC m = decide (m.length = 4) := by
  have : m.any rowBad = false := by
    refine List.any_eq_false.2 fun r hr => ?_
    obtain ⟨i, hi, e⟩ := List.getElem_of_mem hr
    have h1 := h i hi
    have e1 : m.getD i [] = m[i] := by simp [List.getD, hi]
    rw [e1, e] at h1
    simp [h1]
  simp [okC, this]
theorem rowBad_cell {r : List Int} {j : Nat} (hj : j < r.length) (hb : badI (r.getD j 0) = true) : rowBad r = true := by
  have e : r.getD j 0 = r[j] := by simp [List.getD, hj]
  rw [e] at hb
  have : r.any badI = true := List.any_eq_true.2 ⟨_, List.getElem_mem hj, hb⟩
  simp [rowBad, this]
theorem rowBad_len {r : List Int} (hl : r.length ≠ 8) : rowBad r = true := by simp [rowBad, hl]
theorem rowBad_end {r : List Int} (hl : r.length = 8) (h : ∀ j, j < 8 → badI (r.getD j 0) = false) : rowBad r = false := by
  have : r.any badI = false := by
    refine List.any_eq_false.2 fun x hx => ?_
    obtain ⟨i, hi, e⟩ := List.getElem_of_mem hx
    have h1 := h i (by omega)
    have e1 : r.getD i 0 = r[i] := by simp [List.getD, hi]
    rw [e1, e] at h1
    simp [h1]
  simp [rowBad, this, hl]

theorem may_none (a : Option Addr) (cap : Nat) (w : World) : Calls Try.prog 49 #[.slice a 0 cap] w fun e w' => e = .returned (.bool false) ∧ w = w' := by
  go_enter Try.func49, Try.ntmps49
  go_wp2_with fail
  refine wp_loop_rounds 1 ?_
  rw [rounds_succ]
  go_wp2
  go_ret
  exact ⟨rfl, rfl⟩

set_option maxHeartbeats 2000000 in
theorem may_some (b off n cap : Nat) (us : List Value) (m : List (List Int)) (w : World) (hn : n = m.length) (hl : 0 < n) (hcap : n ≤ cap) (hm : cap ≤ 9223372036854775807)
    (hc : ∀ i, i < n → w.cell? ⟨b, off + i, none⟩ = some (us.getD i .nilIface)) (hr : ∀ i, i < n → SliceR w (us.getD i .nilIface) 1 intCell (m.getD i [])) :
    Calls Try.prog 49 #[.slice (some ⟨b, off, none⟩) n cap] w fun e w' => e = .returned (.bool (okC m)) ∧ w = w' := by
  have HC := Lib.hid hc
  have HR := Lib.hid hr
  have HN := Lib.hid hn
  obtain ⟨z, hz⟩ : ∃ z, z = okC m := ⟨_, rfl⟩
  rw [← hz]
  have HZ := Lib.hid hz
  clear hn hc hr hz
  have hn' : (n : Int) ≤ 9223372036854775807 := by omega
  go_enter Try.func49, Try.ntmps49
  go_wp2_with fail
  go_loopg [3] n (fun g i wr => w = wr ∧ ∃ k : Nat, k ≤ n ∧ g = n - k ∧ i = .int .i64 (k : Int) ∧ Hid (∀ i, i < k → rowBad (m.getD i []) = false))
  case atStart => exact ⟨rfl, 0, Nat.zero_le _, rfl, rfl, fun i hi => absurd hi (Nat.not_lt_zero _)⟩
  case round =>
    obtain ⟨rfl, k, hk, rfl, rfl, hall⟩ := hrel
    by_cases hlt : k < n
    · have hk0 : (0 : Int) ≤ (k : Int) := by omega
      have hk1 : (k : Int) < (n : Int) := by omega
      have c0 := HC.out k hlt
      have r0 := HR.out k hlt
      obtain ⟨u, hu⟩ : ∃ u, u = us.getD k .nilIface := ⟨_, rfl⟩
      rw [← hu] at c0 r0
      clear hu
      obtain ⟨r, hr⟩ : ∃ r, r = m.getD k [] := ⟨_, rfl⟩
      rw [← hr] at r0
      have HRR := Lib.hid hr
      clear hr
      obtain ⟨ua, ucap, hua, _, _, _, hrc⟩ := r0.one (c := fun n => .int .i64 n) 0
      subst hua
      by_cases h8 : r.length = 8
      · obtain ⟨rb, roff, rfl, hrd⟩ := hrc (by omega)
        have HRD := Lib.hid hrd
        rw [h8] at c0
        have H8 := Lib.hid h8
        clear h8 hrd hrc r0
        go_wp2_with fail
        go_loopg [4] 8 (fun g j wr => w = wr ∧ ∃ q : Nat, q ≤ 8 ∧ g = 8 - q ∧ j = .int .i64 (q : Int) ∧ Hid (∀ i, i < q → badI (r.getD i 0) = false))
        case atStart => exact ⟨rfl, 0, Nat.zero_le _, rfl, rfl, fun i hi => absurd hi (Nat.not_lt_zero _)⟩
        case round =>
          obtain ⟨rfl, q, hq, rfl, rfl, hin⟩ := hrel
          by_cases hlt8 : q < 8
          · have hq0 : (0 : Int) ≤ (q : Int) := by omega
            have hq1 : (q : Int) < 8 := by omega
            have hq2 : (q : Int) < ((8 : Nat) : Int) := by omega
            have c1 := HRD.out q (by rw [H8.out]; exact hlt8)
            obtain ⟨x, hx⟩ : ∃ x, x = r.getD q 0 := ⟨_, rfl⟩
            rw [← hx] at c1
            have HX := Lib.hid hx
            clear hx
            by_cases x1 : x < 0
            · go_wp2_with fail
              go_ret
              refine ⟨?_, rfl⟩
              rw [HZ.out, okC_bad (k := k) (by rw [← HN.out]; exact hlt) (by rw [← HRR.out]; exact rowBad_cell (j := q) (by rw [H8.out]; exact hlt8) (by rw [← HX.out]; simp [badI, x1]))]
              rfl
            · by_cases x2 : 1073741824 < x
              · have x3 : 0 ≤ x := by omega
                go_wp2_with fail
                go_ret
                refine ⟨?_, rfl⟩
                rw [HZ.out, okC_bad (k := k) (by rw [← HN.out]; exact hlt) (by rw [← HRR.out]; exact rowBad_cell (j := q) (by rw [H8.out]; exact hlt8) (by rw [← HX.out]; simp [badI, x2]))]
                rfl
              · have x3 : 0 ≤ x := by omega
                have x4 : x ≤ 1073741824 := by omega
                go_wp2_with fail
                go_roundg (8 - (q + 1))
                case measure => omega
                case rel =>
                  refine ⟨rfl, q + 1, by omega, rfl, by go_num, fun i hi => ?_⟩
                  by_cases hiq : i < q
                  · exact hin.out i hiq
                  · obtain rfl : i = q := by omega
                    rw [← HX.out]
                    simp only [badI, Bool.or_eq_false_iff, decide_eq_false_iff_not]
                    omega
          · obtain rfl : q = 8 := by omega
            go_wp2_with fail
            go_roundg (n - (k + 1))
            case measure => omega
            case rel =>
              refine ⟨rfl, k + 1, by omega, rfl, by go_num, fun i hi => ?_⟩
              by_cases hik : i < k
              · exact hall.out i hik
              · obtain rfl : i = k := by omega
                rw [← HRR.out]
                exact rowBad_end H8.out hin.out
      · obtain ⟨rl, hrl⟩ : ∃ rl, rl = r.length := ⟨_, rfl⟩
        rw [← hrl] at c0 h8
        have HRL := Lib.hid hrl
        have hd : ((rl : Int) != 8) = true := by simp; omega
        have H8 := Lib.hid h8
        clear hrl hrc r0 h8
        go_wp2_with fail
        go_ret
        refine ⟨?_, rfl⟩
        rw [HZ.out, okC_bad (k := k) (by rw [← HN.out]; exact hlt) (by rw [← HRR.out]; exact rowBad_len (by rw [← HRL.out]; exact H8.out))]
        rfl
    · obtain rfl : k = n := by omega
      have hlt' : ¬ (k : Int) < (k : Int) := by omega
      by_cases h4 : k = 4
      · subst h4
        go_wp2_with fail
        go_ret
        refine ⟨?_, rfl⟩
        rw [HZ.out, okC_end (by rw [← HN.out]; exact hall.out), ← HN.out]
        rfl
      · have hd : ((k : Int) == 4) = false := by simp; omega
        have H4 := Lib.hid h4
        clear h4
        go_wp2_with fail
        go_ret
        refine ⟨?_, rfl⟩
        rw [HZ.out, okC_end (by rw [← HN.out]; exact hall.out), ← HN.out, decide_eq_false H4.out]
        rfl

theorem may_any {v : Value} {m : List (List Int)} {w : World} (h : RowsR w v m) : Calls Try.prog 49 #[v] w fun e w' => e = .returned (.bool (okC m)) ∧ w = w' := by
  obtain ⟨us, h1, h2, h3⟩ := h
  obtain ⟨a, cap, rfl, hcap, hm, _, hc⟩ := h1.one (c := fun u => u) .nilIface
  by_cases hl : us.length = 0
  · have : m = [] := List.length_eq_zero_iff.1 (by omega)
    subst this
    rw [hl]
    exact may_none a cap w
  · obtain ⟨b, off, rfl, hd⟩ := hc (by omega)
    unfold maxLen at hm
    exact may_some b off _ cap us m w h2 (by omega) hcap hm hd (fun i hi => h3 i (by omega))

theorem refCheck_any {v : Value} {m : List (List Int)} {w : World} (h : RowsR w v m) : Calls Try.prog 36 #[v] w fun e w' => e = .returned (.int .i64 (if okC m then 0 else 8)) ∧ w = w' := by
  have K := may_any h
  obtain ⟨a, na, cap, rfl⟩ := h.shape
  cases hok : okC m
  all_goals
    rw [hok] at K
    have HK := Lib.hid K
    clear K hok h
    go_enter Try.func36, Try.ntmps36
    go_wp2_with fail
    refine HK.out.mono ?_
    rintro e w1 ⟨rfl, rfl⟩
    go_wp2_with fail
    go_ret
    exact ⟨rfl, rfl⟩

theorem refAsked_any {v : Value} {m : List (List Int)} (t k : Int) {w : World} (h : RowsR w v m) :
    Calls Try.prog 48 #[v, .int .i64 t, .int .i64 k] w fun e w' => e = .returned (.int .i64 (askC m t k)) ∧ w = w' := by
  have K := may_any h
  obtain ⟨a, na, cap, rfl⟩ := h.shape
  cases hok : okC m
  · rw [hok] at K
    have e : askC m t k = 8 := by simp [askC, hok]
    rw [e]
    have HK := Lib.hid K
    clear K hok e h
    go_enter Try.func48, Try.ntmps48
    go_wp2_with fail
    refine HK.out.mono ?_
    rintro e w1 ⟨rfl, rfl⟩
    go_wp2_with fail
    go_ret
    exact ⟨rfl, rfl⟩
  · rw [hok] at K
    have HK := Lib.hid K
    have e : askC m t k = if 0 ≤ t ∧ t < 4 ∧ 0 ≤ k ∧ k < 8 then 0 else 2 := by simp only [askC, hok, if_true, inTW, decide_eq_true_eq]
    rw [e]
    clear K hok e h
    by_cases h1 : t < 0
    · rw [if_neg (by omega)]
      go_enter Try.func48, Try.ntmps48
      go_wp2_with fail
      refine HK.out.mono ?_
      rintro e w1 ⟨rfl, rfl⟩
      go_wp2_with fail
      go_ret
      exact ⟨rfl, rfl⟩
    · by_cases h2 : 4 ≤ t
      · rw [if_neg (by omega)]
        go_enter Try.func48, Try.ntmps48
        go_wp2_with fail
        refine HK.out.mono ?_
        rintro e w1 ⟨rfl, rfl⟩
        go_wp2_with fail
        go_ret
        exact ⟨rfl, rfl⟩
      · by_cases h3 : k < 0
        · rw [if_neg (by omega)]
          go_enter Try.func48, Try.ntmps48
          go_wp2_with fail
          refine HK.out.mono ?_
          rintro e w1 ⟨rfl, rfl⟩
          go_wp2_with fail
          go_ret
          exact ⟨rfl, rfl⟩
        · by_cases h4 : 8 ≤ k
          · rw [if_neg (by omega)]
            go_enter Try.func48, Try.ntmps48
            go_wp2_with fail
            refine HK.out.mono ?_
            rintro e w1 ⟨rfl, rfl⟩
            go_wp2_with fail
            go_ret
            exact ⟨rfl, rfl⟩
          · rw [if_pos (by omega)]
            go_enter Try.func48, Try.ntmps48
            go_wp2_with fail
            refine HK.out.mono ?_
            rintro e w1 ⟨rfl, rfl⟩
            go_wp2_with fail
            go_ret
            exact ⟨rfl, rfl⟩

theorem refGet_any {v : Value} {m : List (List Int)} (t k : Int) {w : World} (h : RowsR w v m) :
    Calls Try.prog 33 #[v, .int .i64 t, .int .i64 k] w fun e w' => e = .returned (.tuple #[.int .i64 (if askC m t k = 0 then getC m t k else 0), .int .i64 (askC m t k)]) ∧ w = w' := by
  have K := refAsked_any t k h
  by_cases ha : askC m t k = 0
  · obtain ⟨hok, h1, h2, h3, h4⟩ : okC m = true ∧ 0 ≤ t ∧ t < 4 ∧ 0 ≤ k ∧ k < 8 := by
      unfold askC at ha
      by_cases hok : okC m = true
      · rw [if_pos hok] at ha
        by_cases hin : inTW t k = true
        · exact ⟨hok, by simpa [inTW] using hin⟩
        · rw [if_neg hin] at ha; omega
      · rw [if_neg hok] at ha; omega
    obtain ⟨b, off, cap, rb, roff, rcap, rfl, c1, c2⟩ := rows_cell h hok h1 h2 h3 h4
    rw [ha] at K ⊢
    rw [if_pos rfl]
    obtain ⟨x, hx⟩ : ∃ x, x = getC m t k := ⟨_, rfl⟩
    rw [← hx] at c2 ⊢
    have HK := Lib.hid K
    clear K hx ha h hok
    go_enter Try.func33, Try.ntmps33
    go_wp2_with fail
    refine HK.out.mono ?_
    rintro e w1 ⟨rfl, rfl⟩
    go_wp2_with fail
    go_ret2
    exact ⟨rfl, rfl⟩
  · rw [if_neg ha]
    obtain ⟨c, hc⟩ : ∃ c, c = askC m t k := ⟨_, rfl⟩
    rw [← hc] at K ha ⊢
    have hd : (c != 0) = true := by simpa using ha
    have HK := Lib.hid K
    obtain ⟨a, na, cap, rfl⟩ := h.shape
    clear K hc h ha
    go_enter Try.func33, Try.ntmps33
    go_wp2_with fail
    refine HK.out.mono ?_
    rintro e w1 ⟨rfl, rfl⟩
    go_wp2_with fail
    go_ret2
    exact ⟨rfl, rfl⟩

end Go.Proofs.Ythkgbfeljgdnaaa
