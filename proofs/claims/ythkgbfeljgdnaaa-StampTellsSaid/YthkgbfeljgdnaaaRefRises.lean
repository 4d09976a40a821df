/-
  The document's order of stamps, whether they rise, and whether two lists are one. No condition but that the slices read.
-/
import Derived.Test.YthkgbfeljgdnaaaRises
import Derived.Test.YthkgbfeljgdnaaaStEq
namespace Go.Proofs.Ythkgbfeljgdnaaa
open Go.RowKit

theorem refless_any (t i t' i' : Int) (w : World) :
    Calls Try.prog 22 #[.agg #[.int .i64 t, .int .i64 i], .agg #[.int .i64 t', .int .i64 i']] w fun e w' => e = .returned (.bool (lessB t i t' i')) ∧ Below w.heap.size w w' := by
  have hb : Below w.heap.size w ((w.alloc (.cells #[.int .i64 t, .int .i64 i] 33)).alloc (.cells #[.int .i64 t', .int .i64 i'] 33)) := ((Below.refl _ _).alloc (Nat.le_refl _) _).alloc (by simp) _
  by_cases h : t < t'
  · rw [show lessB t i t' i' = true from by simp [lessB, h]]
    go_enter Try.func22, Try.ntmps22
    go_wp2
    go_ret
    exact ⟨rfl, hb⟩
  · by_cases h2 : t = t'
    · subst h2
      have e : (t == t) = true := by simp
      by_cases h3 : i < i'
      · rw [show lessB t i t i' = true from by simp [lessB, h3]]
        go_enter Try.func22, Try.ntmps22
        go_wp2
        go_ret
        exact ⟨rfl, hb⟩
      · rw [show lessB t i t i' = false from by simp [lessB, h3]]
        have h4 : decide (i < i') = false := by simpa using h3
        go_enter Try.func22, Try.ntmps22
        go_wp2
        go_ret
        exact ⟨rfl, hb⟩
    · rw [show lessB t i t' i' = false from by simp [lessB, h, h2]]
      have h4 : (t == t') = false := by simpa using h2
      go_enter Try.func22, Try.ntmps22
      go_wp2
      go_ret
      exact ⟨rfl, hb⟩

theorem refrises_few (a : Option Addr) (n cap : Nat) (l : List (Int × Int)) (w : World) (hn : n = l.length) (hl : n ≤ 1) :
    Calls Try.prog 23 #[.slice a n cap] w fun e w' => e = .returned (.bool (risesB l)) ∧ Below w.heap.size w w' := by
  have hr : risesB l = true := by
    have : l.length - 1 = 0 := by omega
    simp [risesB, upTo, this]
  rw [hr]
  clear hn hr
  have h1 : ¬ (1 : Int) < (n : Int) := by omega
  go_enter Try.func23, Try.ntmps23
  go_wp2_with fail
  refine wp_loop_rounds 1 ?_
  rw [rounds_succ]
  go_wp2
  go_ret
  exact ⟨rfl, Below.refl _ _⟩

set_option maxHeartbeats 2000000 in
theorem refrises_some (b off cap : Nat) (l : List (Int × Int)) (w : World) (hl : 2 ≤ l.length) (hcap : l.length ≤ cap) (hm : cap ≤ 9223372036854775807)
    (hc : ∀ i, i < l.length → w.cell? ⟨b, off + i * 2, none⟩ = some (.int .i64 (l.getD i (0, 0)).1) ∧ w.cell? ⟨b, off + i * 2 + 1, none⟩ = some (.int .i64 (l.getD i (0, 0)).2)) :
    Calls Try.prog 23 #[.slice (some ⟨b, off, none⟩) l.length cap] w fun e w' => e = .returned (.bool (risesB l)) ∧ Below w.heap.size w w' := by
  obtain ⟨n, hn⟩ : ∃ n, n = l.length := ⟨_, rfl⟩
  rw [← hn] at hl hcap hc ⊢
  have HN := Lib.hid hn
  have HC := Lib.hid hc
  clear hn hc
  obtain ⟨r, hr⟩ : ∃ r, r = risesB l := ⟨_, rfl⟩
  rw [← hr]
  have HR := Lib.hid hr
  clear hr
  have hl' : (2 : Int) ≤ (n : Int) := by omega
  have hn' : (n : Int) ≤ 9223372036854775807 := by omega
  go_enter Try.func23, Try.ntmps23
  go_wp2_with fail
  go_loopw [3] (fun i wr => ∃ k : Nat, k ≤ n - 1 ∧ i = .int .i64 ((k + 1 : Nat) : Int) ∧ Hid (upTo l k = true) ∧ Below w.heap.size w wr) (fun i _ => n - (intOf i).toNat)
  case atStart => exact ⟨0, Nat.zero_le _, rfl, by rfl, Below.refl _ _⟩
  case round =>
    obtain ⟨k, hk, rfl, hup, hb⟩ := hrel
    by_cases hlt : k < n - 1
    · have hk0 : (0 : Int) ≤ (k : Int) := by omega
      have hk1 : (k : Int) < (n : Int) := by omega
      have hk2 : ((k + 1 : Nat) : Int) < (n : Int) := by omega
      have hk3 : (0 : Int) ≤ ((k + 1 : Nat) : Int) := by omega
      have c0 := HC.out k (by omega)
      have c1 := HC.out (k + 1) (by omega)
      obtain ⟨x, hx⟩ : ∃ x, x = l.getD k (0, 0) := ⟨_, rfl⟩
      obtain ⟨y, hy⟩ : ∃ y, y = l.getD (k + 1) (0, 0) := ⟨_, rfl⟩
      rw [← hx] at c0
      rw [← hy] at c1
      have HX := Lib.hid hx
      have HY := Lib.hid hy
      clear hx hy
      have c00 := keep hb c0.1
      have c01 := keep hb c0.2
      have c10 := keep hb c1.1
      have c11 := keep hb c1.2
      clear c0 c1
      have hw0 : IntKind.i64.wrap (k : Int) = (k : Int) := IntWalk.i64_in _ (by omega)
      have hw3 : ((k : Int) + 1).toNat = k + 1 := by omega
      have hw4 : (k : Int) + 1 < (n : Int) := by omega
      have hw5 : (0 : Int) ≤ (k : Int) + 1 := by omega
      obtain ⟨c, hc⟩ : ∃ c, c = lessB x.1 x.2 y.1 y.2 := ⟨_, rfl⟩
      have L : ∀ w, Calls Try.prog 22 #[.agg #[.int .i64 x.1, .int .i64 x.2], .agg #[.int .i64 y.1, .int .i64 y.2]] w fun e w' => e = .returned (.bool c) ∧ Below w.heap.size w w' := fun w => by
        rw [hc]; exact refless_any _ _ _ _ w
      have HL := Lib.hid L
      have HLC := Lib.hid hc
      clear L hc
      cases c
      all_goals
        go_wp2_with fail
        refine wp_region_class (fun w' => (w'.cell? ⟨b, off + k * 2, none⟩ = some (.int .i64 x.1) ∧ w'.cell? ⟨b, off + k * 2 + 1, none⟩ = some (.int .i64 x.2) ∧ w'.cell? ⟨b, off + (k + 1) * 2, none⟩ = some (.int .i64 y.1) ∧ w'.cell? ⟨b, off + (k + 1) * 2 + 1, none⟩ = some (.int .i64 y.2)) ∧ Below w.heap.size w w') (by kernel_rfl) (by kernel_rfl) ⟨⟨by simpa using c00, by simpa using c01, by simpa using c10, by simpa using c11⟩, hb.drew⟩ ?_
        repeat
          with_reducible refine wpQuiet_step (fun K hK => ?_)
          first
            | refine quiet_not (by rfl) (hK _ ?_)
            | refine quiet_any (by rfl) ?_
              apply Exists.intro
              refine ⟨fun wq hq => ?_, hK _ ?_⟩
              · obtain ⟨⟨k0, k1, k2, k3⟩, kb⟩ := hq
                go_simp
                first
                  | done
                  | (with_reducible rfl)
                  | (go_at_call 22; refine (HL.out _).mono ?_; rintro e wz ⟨rfl, hz⟩; exact ⟨rfl, ⟨keep hz k0, keep hz k1, keep hz k2, keep hz k3⟩, kb.trans (hz.mono kb.size)⟩)
          clear hK K
          simp only [Act.put, List.setIfInBounds_toArray, List.set_cons_zero, List.set_cons_succ]
        refine wpQuiet_nil ?_
        intro wq hq
        have hbq := hq.2
        clear hq
        go_wp2_with fail
      · go_ret
        refine ⟨?_, hbq⟩
        have e : risesB l = false := by
          have h1 := HN.out
          refine upTo_false l k _ (by omega) ?_
          have h2 := HLC.out
          have h3 := HX.out
          have h4 := HY.out
          subst h3 h4
          exact h2.symm
        rw [HR.out, e]
        rfl
      · go_roundw
        case rel =>
          refine ⟨k + 1, by omega, by go_num, ?_, hbq⟩
          show upTo l (k + 1) = true
          have h2 := HLC.out
          have h3 := HX.out
          have h4 := HY.out
          subst h3 h4
          rw [upTo_succ, hup.out]
          exact h2.symm
        case measure => simp [intOf]; omega
    · obtain rfl : k = n - 1 := by omega
      have hlt' : ¬ ((n - 1 + 1 : Nat) : Int) < (n : Int) := by omega
      go_wp2_with fail
      go_ret
      refine ⟨?_, hb⟩
      rw [HR.out]
      unfold risesB
      rw [← HN.out, hup.out]
      rfl

theorem refrises_any {v : Value} {l : List (Int × Int)} {w : World} (h : SliceR w v 2 stCells l) : Calls Try.prog 23 #[v] w fun e w' => e = .returned (.bool (risesB l)) ∧ Below w.heap.size w w' := by
  obtain ⟨a, cap, rfl, hcap, hm, hc⟩ := stamp_cells h
  by_cases hl : l.length ≤ 1
  · exact refrises_few a _ cap l w rfl hl
  · obtain ⟨b, off, rfl, hd⟩ := hc (by omega)
    unfold maxLen at hm
    exact refrises_some b off cap l w (by omega) hcap hm hd
end Go.Proofs.Ythkgbfeljgdnaaa
