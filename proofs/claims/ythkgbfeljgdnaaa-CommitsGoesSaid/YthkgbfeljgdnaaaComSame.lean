/-
  slices.Equal at numbers, slices.EqualFunc at rows of numbers, commits.Same. No condition but that the slices read.
-/
import Derived.Test.YthkgbfeljgdnaaaComCheck
import Derived.Test.YthkgbfeljgdnaaaRows2
namespace Go.Proofs.Ythkgbfeljgdnaaa
open Go.RowKit

theorem list_eq_of {α : Type} {l l' : List α} (d : α) (hl : l.length = l'.length) (h : ∀ j, j < l.length → l.getD j d = l'.getD j d) : l = l' := by
  apply List.ext_getElem hl
  intro i h1 h2
  have := h i h1
  simpa [List.getD, h1, h2] using this

theorem eqInt_len (a a' : Option Addr) (n n' cap cap' : Nat) (w : World) (h : n ≠ n') :
    Calls Try.prog 52 #[.slice a n cap, .slice a' n' cap'] w fun e w' => e = .returned (.bool false) ∧ Below w.heap.size w w' := by
  have hd : ((n : Int) != (n' : Int)) = true := by simp; omega
  go_enter Try.func52, Try.ntmps52
  go_wp2_with fail
  go_ret
  exact ⟨rfl, Below.refl _ _⟩
theorem eqInt_none (a a' : Option Addr) (cap cap' : Nat) (w : World) :
    Calls Try.prog 52 #[.slice a 0 cap, .slice a' 0 cap'] w fun e w' => e = .returned (.bool true) ∧ Below w.heap.size w w' := by
  go_enter Try.func52, Try.ntmps52
  go_wp2_with fail
  refine wp_loop_rounds 1 ?_
  rw [rounds_succ]
  go_wp2
  go_ret
  exact ⟨rfl, Below.refl _ _⟩

set_option maxHeartbeats 1000000 in
theorem eqInt_some (b off cap b' off' cap' n : Nat) (l l' : List Int) (w : World) (hl : 0 < n) (hn : n = l.length) (hn2 : n = l'.length) (hcap : n ≤ cap) (hm : cap ≤ 9223372036854775807) (hcap' : n ≤ cap')
    (hc : ∀ i, i < n → w.cell? ⟨b, off + i, none⟩ = some (.int .i64 (l.getD i 0))) (hc' : ∀ i, i < n → w.cell? ⟨b', off' + i, none⟩ = some (.int .i64 (l'.getD i 0))) :
    Calls Try.prog 52 #[.slice (some ⟨b, off, none⟩) n cap, .slice (some ⟨b', off', none⟩) n cap'] w fun e w' => e = .returned (.bool (decide (l = l'))) ∧ Below w.heap.size w w' := by
  have HC := Lib.hid hc
  have HC' := Lib.hid hc'
  have HN := Lib.hid hn
  have HN2 := Lib.hid hn2
  obtain ⟨r, hr⟩ : ∃ r, r = decide (l = l') := ⟨_, rfl⟩
  rw [← hr]
  have HR := Lib.hid hr
  clear hn hn2 hc hc' hr
  have nn : ((n : Int) != (n : Int)) = false := by simp
  have hn' : (n : Int) ≤ 9223372036854775807 := by omega
  go_enter Try.func52, Try.ntmps52
  go_wp2_with fail
  go_loopw [5, 13] (fun _ i wr => ∃ k : Nat, k ≤ n ∧ i = .int .i64 (k : Int) ∧ Hid (∀ j, j < k → l.getD j 0 = l'.getD j 0) ∧ Below w.heap.size w wr) (fun _ i _ => n - (intOf i).toNat)
  case atStart => exact ⟨0, Nat.zero_le _, rfl, (fun j hj => absurd hj (Nat.not_lt_zero _)), Below.refl _ _⟩
  case round =>
    obtain ⟨k, hk, rfl, hall, hb⟩ := hrel
    by_cases hlt : k < n
    · have hk0 : (0 : Int) ≤ (k : Int) := by omega
      have hk1 : (k : Int) < (n : Int) := by omega
      have c0 := keep hb (HC.out k hlt)
      have c1 := keep hb (HC'.out k hlt)
      obtain ⟨x, hx⟩ : ∃ x, x = l.getD k 0 := ⟨_, rfl⟩
      obtain ⟨y, hy⟩ : ∃ y, y = l'.getD k 0 := ⟨_, rfl⟩
      rw [← hx] at c0
      rw [← hy] at c1
      have HX := Lib.hid hx
      have HY := Lib.hid hy
      clear hx hy
      by_cases hxy : x = y
      · have hd : (x != y) = false := by simpa using hxy
        have HXY := Lib.hid hxy
        clear hxy
        go_wp2_with fail
        refine wp_region_class (fun w' => (w'.cell? ⟨b, off + k, none⟩ = some (.int .i64 x) ∧ w'.cell? ⟨b', off' + k, none⟩ = some (.int .i64 y)) ∧ Below w.heap.size w w') (by kernel_rfl) (by kernel_rfl) ⟨⟨by simpa using c0, by simpa using c1⟩, hb.drew⟩ ?_
        repeat
          with_reducible refine wpQuiet_step (fun K hK => ?_)
          first
            | refine quiet_not (by rfl) (hK _ ?_)
            | refine quiet_any (by rfl) ?_
              apply Exists.intro
              refine ⟨fun wq hq => ?_, hK _ ?_⟩
              · obtain ⟨⟨k0, k1⟩, kb⟩ := hq
                go_simp
                first
                  | done
                  | (with_reducible rfl)
                  | (fail)
          clear hK K
          simp only [Act.put, List.setIfInBounds_toArray, List.set_cons_zero, List.set_cons_succ]
        refine wpQuiet_nil ?_
        intro wq hq
        have hbq := hq.2
        clear hq
        go_wp2_with fail
        go_roundw
        case rel =>
          refine ⟨k + 1, by omega, by go_num, fun j hj => ?_, hbq⟩
          by_cases hjk : j < k
          · exact hall.out j hjk
          · obtain rfl : j = k := by omega
            rw [← HX.out, ← HY.out]; exact HXY.out
        case measure => simp [intOf]; omega
      · have hd : (x != y) = true := by simpa using hxy
        have HXY := Lib.hid hxy
        clear hxy
        go_wp2_with fail
        refine wp_region_class (fun w' => (w'.cell? ⟨b, off + k, none⟩ = some (.int .i64 x) ∧ w'.cell? ⟨b', off' + k, none⟩ = some (.int .i64 y)) ∧ Below w.heap.size w w') (by kernel_rfl) (by kernel_rfl) ⟨⟨by simpa using c0, by simpa using c1⟩, hb.drew⟩ ?_
        repeat
          with_reducible refine wpQuiet_step (fun K hK => ?_)
          first
            | refine quiet_not (by rfl) (hK _ ?_)
            | refine quiet_any (by rfl) ?_
              apply Exists.intro
              refine ⟨fun wq hq => ?_, hK _ ?_⟩
              · obtain ⟨⟨k0, k1⟩, kb⟩ := hq
                go_simp
                first
                  | done
                  | (with_reducible rfl)
                  | (fail)
          clear hK K
          simp only [Act.put, List.setIfInBounds_toArray, List.set_cons_zero, List.set_cons_succ]
        refine wpQuiet_nil ?_
        intro wq hq
        have hbq := hq.2
        clear hq
        go_wp2_with fail
        go_ret
        refine ⟨?_, hbq⟩
        have e : r = false := by
          rw [HR.out]
          refine decide_eq_false (fun e => HXY.out ?_)
          rw [HX.out, HY.out, e]
        rw [e]
        rfl
    · obtain rfl : k = n := by omega
      have hlt' : ¬ (k : Int) < (k : Int) := by omega
      go_wp2_with fail
      go_ret
      refine ⟨?_, hb⟩
      have e : r = true := by
        rw [HR.out]
        refine decide_eq_true (list_eq_of 0 (by rw [← HN.out, HN2.out]) (fun j hj => hall.out j (by rw [HN.out]; exact hj)))
      rw [e]
      rfl

theorem eqInt_any {v v' : Value} {l l' : List Int} {w : World} (h : SliceR w v 1 intCell l) (h' : SliceR w v' 1 intCell l') :
    Calls Try.prog 52 #[v, v'] w fun e w' => e = .returned (.bool (decide (l = l'))) ∧ Below w.heap.size w w' := by
  obtain ⟨a, cap, rfl, hcap, hm, _, hc⟩ := h.one (c := fun n => .int .i64 n) 0
  obtain ⟨a', cap', rfl, hcap', hm', _, hc'⟩ := h'.one (c := fun n => .int .i64 n) 0
  by_cases hl : l.length = l'.length
  · by_cases h0 : l.length = 0
    · have e1 : l = [] := List.length_eq_zero_iff.1 h0
      have e2 : l' = [] := List.length_eq_zero_iff.1 (by omega)
      subst e1 e2
      simpa using eqInt_none a a' cap cap' w
    · obtain ⟨b, off, rfl, hd⟩ := hc (by omega)
      obtain ⟨b', off', rfl, hd'⟩ := hc' (by omega)
      unfold maxLen at hm
      rw [← hl]
      exact eqInt_some b off cap b' off' cap' _ l l' w (by omega) rfl hl hcap hm (by omega) hd (fun i hi => hd' i (by omega))
  · have e : decide (l = l') = false := decide_eq_false (fun e => hl (by rw [e]))
    rw [e]
    exact eqInt_len a a' _ _ cap cap' w hl

theorem same1_any {v v' : Value} {l l' : List Int} {w : World} (h : SliceR w v 1 intCell l) (h' : SliceR w v' 1 intCell l') :
    Calls Try.prog 51 #[v, v'] w fun e w' => e = .returned (.bool (decide (l = l'))) ∧ Below w.heap.size w w' := by
  have K := Lib.hid (eqInt_any h h')
  obtain ⟨a, cap, rfl, _⟩ := h
  obtain ⟨a', cap', rfl, _⟩ := h'
  obtain ⟨r, hr⟩ : ∃ r, r = decide (l = l') := ⟨_, rfl⟩
  rw [← hr] at K ⊢
  clear hr
  obtain ⟨n, hn⟩ : ∃ n, n = l.length := ⟨_, rfl⟩
  obtain ⟨n', hn'⟩ : ∃ n, n = l'.length := ⟨_, rfl⟩
  rw [← hn, ← hn'] at K
  rw [← hn, ← hn']
  clear hn hn'
  go_enter Try.func51, Try.ntmps51
  go_wp2_with fail
  refine K.out.mono ?_
  rintro e w1 ⟨rfl, hb⟩
  go_wp2_with fail
  go_ret
  exact ⟨rfl, hb⟩

/-! ### Rows -/

theorem eqRow_len (a a' : Option Addr) (n n' cap cap' : Nat) (f : Value) (w : World) (h : n ≠ n') :
    Calls Try.prog 50 #[.slice a n cap, .slice a' n' cap', f] w fun e w' => e = .returned (.bool false) ∧ Below w.heap.size w w' := by
  have hd : ((n : Int) != (n' : Int)) = true := by simp; omega
  go_enter Try.func50, Try.ntmps50
  go_wp2_with fail
  go_ret
  exact ⟨rfl, Below.refl _ _⟩
theorem eqRow_none (a a' : Option Addr) (cap cap' : Nat) (f : Value) (w : World) :
    Calls Try.prog 50 #[.slice a 0 cap, .slice a' 0 cap', f] w fun e w' => e = .returned (.bool true) ∧ Below w.heap.size w w' := by
  go_enter Try.func50, Try.ntmps50
  go_wp2_with fail
  refine wp_loop_rounds 1 ?_
  rw [rounds_succ]
  go_wp2
  go_ret
  exact ⟨rfl, Below.refl _ _⟩

set_option maxHeartbeats 1000000 in
theorem eqRow_some (b off cap b' off' cap' n : Nat) (us us' : List Value) (m m' : List (List Int)) (w : World) (hl : 0 < n) (hn : n = m.length) (hn2 : n = m'.length) (hcap : n ≤ cap) (hm : cap ≤ 9223372036854775807) (hcap' : n ≤ cap')
    (hc : ∀ i, i < n → w.cell? ⟨b, off + i, none⟩ = some (us.getD i .nilIface)) (hc' : ∀ i, i < n → w.cell? ⟨b', off' + i, none⟩ = some (us'.getD i .nilIface))
    (hr : ∀ i, i < n → SliceR w (us.getD i .nilIface) 1 intCell (m.getD i [])) (hr' : ∀ i, i < n → SliceR w (us'.getD i .nilIface) 1 intCell (m'.getD i [])) :
    Calls Try.prog 50 #[.slice (some ⟨b, off, none⟩) n cap, .slice (some ⟨b', off', none⟩) n cap', .func (.func 51) #[] #[]] w fun e w' => e = .returned (.bool (decide (m = m'))) ∧ Below w.heap.size w w' := by
  have HC := Lib.hid hc
  have HC' := Lib.hid hc'
  have HR := Lib.hid hr
  have HR' := Lib.hid hr'
  have HN := Lib.hid hn
  have HN2 := Lib.hid hn2
  obtain ⟨r, hr⟩ : ∃ r, r = decide (m = m') := ⟨_, rfl⟩
  rw [← hr]
  have HRR := Lib.hid hr
  clear hn hn2 hc hc' hr hr'
  have nn : ((n : Int) != (n : Int)) = false := by simp
  have hn' : (n : Int) ≤ 9223372036854775807 := by omega
  go_enter Try.func50, Try.ntmps50
  go_wp2_with fail
  go_loopw [7, 8, 9, 17] (fun _ _ _ i wr => ∃ k : Nat, k ≤ n ∧ i = .int .i64 (k : Int) ∧ Hid (∀ j, j < k → m.getD j [] = m'.getD j []) ∧ Below w.heap.size w wr) (fun _ _ _ i _ => n - (intOf i).toNat)
  case atStart => exact ⟨0, Nat.zero_le _, rfl, (fun j hj => absurd hj (Nat.not_lt_zero _)), Below.refl _ _⟩
  case round =>
    obtain ⟨k, hk, rfl, hall, hb⟩ := hrel
    by_cases hlt : k < n
    · have hk0 : (0 : Int) ≤ (k : Int) := by omega
      have hk1 : (k : Int) < (n : Int) := by omega
      have c0 := keep hb (HC.out k hlt)
      have c1 := keep hb (HC'.out k hlt)
      have r0 := (HR.out k hlt).below (fun _ => rfl) hb
      have r1 := (HR'.out k hlt).below (fun _ => rfl) hb
      obtain ⟨x, hx⟩ : ∃ x, x = m.getD k [] := ⟨_, rfl⟩
      obtain ⟨y, hy⟩ : ∃ y, y = m'.getD k [] := ⟨_, rfl⟩
      obtain ⟨u, hu⟩ : ∃ u, u = us.getD k .nilIface := ⟨_, rfl⟩
      obtain ⟨u', hu'⟩ : ∃ u, u = us'.getD k .nilIface := ⟨_, rfl⟩
      rw [← hx, ← hu] at r0
      rw [← hy, ← hu'] at r1
      rw [← hu] at c0
      rw [← hu'] at c1
      have HX := Lib.hid hx
      have HY := Lib.hid hy
      have L := same1_any r0 r1
      obtain ⟨ua, ucap, hua, _⟩ := r0
      obtain ⟨ua', ucap', hua', _⟩ := r1
      clear hx hy hu hu'
      subst hua hua'
      obtain ⟨c, hc⟩ : ∃ c, c = decide (x = y) := ⟨_, rfl⟩
      rw [← hc] at L
      have HL := Lib.hid L
      have HXY := Lib.hid hc
      clear L hc
      obtain ⟨nx, hnx⟩ : ∃ n, n = x.length := ⟨_, rfl⟩
      obtain ⟨ny, hny⟩ : ∃ n, n = y.length := ⟨_, rfl⟩
      rw [← hnx, ← hny] at HL
      rw [← hnx] at c0
      rw [← hny] at c1
      clear hnx hny
      cases c
      · go_wp2_with fail
        refine HL.out.mono ?_
        rintro e w1 ⟨rfl, hb1⟩
        have hb2 := hb.trans (hb1.mono hb.size)
        go_wp2_with fail
        go_ret
        refine ⟨?_, hb2⟩
        have e : r = false := by
          rw [HRR.out]
          refine decide_eq_false (fun e => ?_)
          have h1 := of_decide_eq_false HXY.out.symm
          exact h1 (by rw [HX.out, HY.out, e])
        rw [e]
        rfl
      · go_wp2_with fail
        refine HL.out.mono ?_
        rintro e w1 ⟨rfl, hb1⟩
        have hb2 := hb.trans (hb1.mono hb.size)
        clear hb hb1 c0 c1
        go_wp2_with fail
        go_roundw
        case rel =>
          refine ⟨k + 1, by omega, by go_num, fun j hj => ?_, hb2⟩
          by_cases hjk : j < k
          · exact hall.out j hjk
          · obtain rfl : j = k := by omega
            rw [← HX.out, ← HY.out]; exact of_decide_eq_true HXY.out.symm
        case measure => simp [intOf]; omega
    · obtain rfl : k = n := by omega
      have hlt' : ¬ (k : Int) < (k : Int) := by omega
      go_wp2_with fail
      go_ret
      refine ⟨?_, hb⟩
      have e : r = true := by
        rw [HRR.out]
        refine decide_eq_true (list_eq_of [] (by rw [← HN.out, HN2.out]) (fun j hj => hall.out j (by rw [HN.out]; exact hj)))
      rw [e]
      rfl

theorem same_any {v v' : Value} {m m' : List (List Int)} {w : World} (h : RowsR w v m) (h' : RowsR w v' m') :
    Calls Try.prog 37 #[v, v'] w fun e w' => e = .returned (.bool (decide (m = m'))) ∧ Below w.heap.size w w' := by
  obtain ⟨us, h1, h2, h3⟩ := h
  obtain ⟨us', h1', h2', h3'⟩ := h'
  obtain ⟨a, cap, rfl, hcap, hm, _, hc⟩ := h1.one (c := fun u => u) .nilIface
  obtain ⟨a', cap', rfl, hcap', hm', _, hc'⟩ := h1'.one (c := fun u => u) .nilIface
  have K : Calls Try.prog 50 #[.slice a us.length cap, .slice a' us'.length cap', .func (.func 51) #[] #[]] w fun e w' => e = .returned (.bool (decide (m = m'))) ∧ Below w.heap.size w w' := by
    by_cases hl : us.length = us'.length
    · by_cases h0 : us.length = 0
      · have e1 : m = [] := List.length_eq_zero_iff.1 (by omega)
        have e2 : m' = [] := List.length_eq_zero_iff.1 (by omega)
        rw [← hl, h0, e1, e2]
        exact eqRow_none a a' cap cap' _ w
      · obtain ⟨b, off, rfl, hd⟩ := hc (by omega)
        obtain ⟨b', off', rfl, hd'⟩ := hc' (by omega)
        unfold maxLen at hm
        rw [← hl]
        exact eqRow_some b off cap b' off' cap' _ us us' m m' w (by omega) h2 (by omega) hcap hm (by omega) hd (fun i hi => hd' i (by omega)) (fun i hi => h3 i (by omega)) (fun i hi => h3' i (by omega))
    · have e : decide (m = m') = false := decide_eq_false (fun e => hl (by rw [h2, h2', e]))
      rw [e]
      exact eqRow_len a a' _ _ cap cap' _ w hl
  have HK := Lib.hid K
  obtain ⟨r, hr⟩ : ∃ r, r = decide (m = m') := ⟨_, rfl⟩
  rw [← hr] at HK ⊢
  clear hr K hc hc' h3 h3' h1 h1' h2 h2' hcap hcap' hm hm'
  go_enter Try.func37, Try.ntmps37
  go_wp2_with fail
  refine HK.out.mono ?_
  rintro e w1 ⟨rfl, hb⟩
  go_wp2_with fail
  go_ret
  exact ⟨rfl, hb⟩

end Go.Proofs.Ythkgbfeljgdnaaa
