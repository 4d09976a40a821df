/-
  The document's comparison of two lists of stamps. No condition but that the slices read.
-/
import Derived.Test.YthkgbfeljgdnaaaRefRises
namespace Go.Proofs.Ythkgbfeljgdnaaa
open Go.RowKit

def allEq (l m : List (Int × Int)) (k : Nat) : Bool := (List.range k).all fun i => eqSt (l.getD i (0, 0)) (m.getD i (0, 0))
theorem allEq_succ (l m : List (Int × Int)) (k : Nat) : allEq l m (k + 1) = (allEq l m k && eqSt (l.getD k (0, 0)) (m.getD k (0, 0))) := by
  simp [allEq, List.range_succ]
theorem allEq_self (l : List (Int × Int)) (k : Nat) : allEq l l k = true := by
  unfold allEq
  rw [List.all_eq_true]
  intro i _
  exact (eqSt_iff _ _).2 rfl

/-- Two slices that read as one list: the document says they are one. -/
theorem same14_some (b off cap b' off' cap' : Nat) (l : List (Int × Int)) (w : World) (hl : 1 ≤ l.length) (hcap : l.length ≤ cap) (hm : cap ≤ 9223372036854775807) (hcap' : l.length ≤ cap')
    (hc : ∀ i, i < l.length → w.cell? ⟨b, off + i * 2, none⟩ = some (.int .i64 (l.getD i (0, 0)).1) ∧ w.cell? ⟨b, off + i * 2 + 1, none⟩ = some (.int .i64 (l.getD i (0, 0)).2))
    (hc' : ∀ i, i < l.length → w.cell? ⟨b', off' + i * 2, none⟩ = some (.int .i64 (l.getD i (0, 0)).1) ∧ w.cell? ⟨b', off' + i * 2 + 1, none⟩ = some (.int .i64 (l.getD i (0, 0)).2)) :
    Calls Try.prog 24 #[.slice (some ⟨b, off, none⟩) l.length cap, .slice (some ⟨b', off', none⟩) l.length cap'] w fun e w' => e = .returned (.bool true) ∧ Below w.heap.size w w' := by
  obtain ⟨n, hn⟩ : ∃ n, n = l.length := ⟨_, rfl⟩
  rw [← hn] at hl hcap hcap' hc hc' ⊢
  have HC := Lib.hid hc
  have HC' := Lib.hid hc'
  clear hn hc hc'
  have nn : ((n : Int) != (n : Int)) = false := by simp
  have hn' : (n : Int) ≤ 9223372036854775807 := by omega
  have hE := st_neq
  have hG := st_eqGuard
  go_enter Try.func24, Try.ntmps24
  go_wp2_with fail
  go_loopw [5] (fun i wr => ∃ k : Nat, k ≤ n ∧ i = .int .i64 (k : Int) ∧ Below w.heap.size w wr) (fun i _ => n - (intOf i).toNat)
  case atStart => exact ⟨0, Nat.zero_le _, rfl, Below.refl _ _⟩
  case round =>
    obtain ⟨k, hk, rfl, hb⟩ := hrel
    by_cases hlt : k < n
    · have hk0 : (0 : Int) ≤ (k : Int) := by omega
      have hk1 : (k : Int) < (n : Int) := by omega
      have c0 := HC.out k hlt
      have c1 := HC'.out k hlt
      obtain ⟨x, hx⟩ : ∃ x, x = l.getD k (0, 0) := ⟨_, rfl⟩
      rw [← hx] at c0 c1
      have ex : eqSt (x.1, x.2) (x.1, x.2) = true := (eqSt_iff _ _).2 rfl
      clear hx
      have c00 := keep hb c0.1
      have c01 := keep hb c0.2
      have c10 := keep hb c1.1
      have c11 := keep hb c1.2
      clear c0 c1
      go_wp2_with fail
      refine wp_region_class (fun w' => (w'.cell? ⟨b, off + k * 2, none⟩ = some (.int .i64 x.1) ∧ w'.cell? ⟨b, off + k * 2 + 1, none⟩ = some (.int .i64 x.2) ∧ w'.cell? ⟨b', off' + k * 2, none⟩ = some (.int .i64 x.1) ∧ w'.cell? ⟨b', off' + k * 2 + 1, none⟩ = some (.int .i64 x.2)) ∧ Below w.heap.size w w') (by kernel_rfl) (by kernel_rfl) ⟨⟨by simpa using c00, by simpa using c01, by simpa using c10, by simpa using c11⟩, hb.drew⟩ ?_
      repeat
        with_reducible refine wpQuiet_step (fun K hK => ?_)
        first
          | refine quiet_not (by rfl) (hK _ ?_)
          | refine quiet_any (by rfl) ?_
            apply Exists.intro
            refine ⟨fun wq hq => ?_, hK _ ?_⟩
            · obtain ⟨⟨k0, k1, k2, k3⟩, kb⟩ := hq
              go_simp
              first
                | done
                | (with_reducible rfl)
                | (fail)
        clear hK K
        simp only [Act.put, List.setIfInBounds_toArray, List.set_cons_zero, List.set_cons_succ]
      refine wpQuiet_nil ?_
      intro wq hq
      have hbq := hq.2
      clear hq
      go_wp2_with fail
      go_roundw
      case rel => exact ⟨k + 1, by omega, by go_num, hbq⟩
      case measure => simp [intOf]; omega
    · obtain rfl : k = n := by omega
      have hlt' : ¬ (k : Int) < (k : Int) := by omega
      go_wp2_with fail
      go_ret
      exact ⟨rfl, hb⟩

theorem same14_none (a a' : Option Addr) (cap cap' : Nat) (w : World) :
    Calls Try.prog 24 #[.slice a 0 cap, .slice a' 0 cap'] w fun e w' => e = .returned (.bool true) ∧ Below w.heap.size w w' := by
  go_enter Try.func24, Try.ntmps24
  go_wp2_with fail
  refine wp_loop_rounds 1 ?_
  rw [rounds_succ]
  go_wp2
  go_ret
  exact ⟨rfl, Below.refl _ _⟩

theorem same14_any {v v' : Value} {l : List (Int × Int)} {w : World} (h : SliceR w v 2 stCells l) (h' : SliceR w v' 2 stCells l) :
    Calls Try.prog 24 #[v, v'] w fun e w' => e = .returned (.bool true) ∧ Below w.heap.size w w' := by
  obtain ⟨a, cap, rfl, hcap, hm, hc⟩ := stamp_cells h
  obtain ⟨a', cap', rfl, hcap', hm', hc'⟩ := stamp_cells h'
  by_cases hl : l.length = 0
  · rw [hl]; exact same14_none a a' cap cap' w
  · obtain ⟨b, off, rfl, hd⟩ := hc (by omega)
    obtain ⟨b', off', rfl, hd'⟩ := hc' (by omega)
    unfold maxLen at hm
    exact same14_some b off cap b' off' cap' l w (by omega) hcap hm hcap' hd hd'
end Go.Proofs.Ythkgbfeljgdnaaa
