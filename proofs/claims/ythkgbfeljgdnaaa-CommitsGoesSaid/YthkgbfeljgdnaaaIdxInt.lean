/-
  commits.Check and what it calls: slices.IndexFunc, slices.ContainsFunc at rows of numbers, the two closures. No condition but that the slices read.
-/
import Derived.Test.YthkgbfeljgdnaaaProg
import Derived.Test.YthkgbfeljgdnaaaRead
import Derived.Test.YthkgbfeljgdnaaaKit
import Derived.Laws.EntriesVeiled
namespace Go.Proofs.Ythkgbfeljgdnaaa
open Go.RowKit

def badI (n : Int) : Bool := decide (n < 0) || decide (1073741824 < n)
theorem bad_any (n : Int) (w : World) : Calls Try.prog 44 #[.int .i64 n] w fun e w' => e = .returned (.bool (badI n)) ∧ w = w' := by
  by_cases h1 : n < 0
  · rw [show badI n = true from by simp [badI, h1]]
    go_enter Try.func44, Try.ntmps44
    go_wp2
    go_ret
    exact ⟨rfl, rfl⟩
  · by_cases h2 : 1073741824 < n
    · rw [show badI n = true from by simp [badI, h2]]
      go_enter Try.func44, Try.ntmps44
      go_wp2
      go_ret
      exact ⟨rfl, rfl⟩
    · rw [show badI n = false from by simp [badI]; omega]
      have h3 : decide (1073741824 < n) = false := by simpa using h2
      go_enter Try.func44, Try.ntmps44
      go_wp2
      go_ret
      exact ⟨rfl, rfl⟩

/-- slices.IndexFunc over a row of numbers: is there one that may not be? -/
theorem idxInt_none (a : Option Addr) (cap : Nat) (f : Value) (w : World) : Calls Try.prog 55 #[.slice a 0 cap, f] w fun e w' => e = .returned (.int .i64 (-1)) ∧ Below w.heap.size w w' := by
  go_enter Try.func55, Try.ntmps55
  go_wp2_with fail
  refine wp_loop_rounds 1 ?_
  rw [rounds_succ]
  go_wp2
  go_ret
  exact ⟨rfl, Below.refl _ _⟩

def SomeIdx (l : List Int) (w : World) (e : Ending) (w' : World) : Prop := (∃ i : Int, e = .returned (.int .i64 i) ∧ (if l.any badI then 0 ≤ i else i = -1)) ∧ Below w.heap.size w w'

theorem idxInt_some (b off n cap : Nat) (l : List Int) (w : World) (hn : n = l.length) (hl : 0 < n) (hcap : n ≤ cap) (hm : cap ≤ 9223372036854775807) (hc : ∀ i, i < n → w.cell? ⟨b, off + i, none⟩ = some (.int .i64 (l.getD i 0))) :
    Calls Try.prog 55 #[.slice (some ⟨b, off, none⟩) n cap, .func (.func 44) #[] #[]] w (SomeIdx l w) := by
  have HC := Lib.hid hc
  have HN := Lib.hid hn
  clear hn hc
  have hl' : (0 : Int) < (n : Int) := by omega
  go_enter Try.func55, Try.ntmps55
  go_wp2_with fail
  go_loopw [5, 8] (fun _ i wr => ∃ k : Nat, k ≤ n ∧ i = .int .i64 (k : Int) ∧ Hid (∀ j, j < k → badI (l.getD j 0) = false) ∧ Below w.heap.size w wr) (fun _ i _ => n - (intOf i).toNat)
  case atStart => exact ⟨0, Nat.zero_le _, rfl, (fun j hj => absurd hj (Nat.not_lt_zero _)), Below.refl _ _⟩
  case round =>
    obtain ⟨k, hk, rfl, hno, hb⟩ := hrel
    by_cases hlt : k < n
    · have hk0 : (0 : Int) ≤ (k : Int) := by omega
      have hk1 : (k : Int) < (n : Int) := by omega
      have c0 := keep hb (HC.out k hlt)
      obtain ⟨x, hx⟩ : ∃ x, x = l.getD k 0 := ⟨_, rfl⟩
      rw [← hx] at c0
      have HX := Lib.hid hx
      clear hx
      obtain ⟨c, hc⟩ : ∃ c, c = badI x := ⟨_, rfl⟩
      have L : ∀ w, Calls Try.prog 44 #[.int .i64 x] w fun e w' => e = .returned (.bool c) ∧ w = w' := fun w => by rw [hc]; exact bad_any x w
      have HL := Lib.hid L
      have HLC := Lib.hid hc
      clear L hc
      cases c
      all_goals
        go_wp2_with fail
        refine (HL.out _).mono ?_
        rintro e w1 ⟨rfl, rfl⟩
        go_wp2_with fail
      · go_roundw
        case rel =>
          refine ⟨k + 1, by omega, by go_num, fun j hj => ?_, hb⟩
          by_cases hjk : j < k
          · exact hno.out j hjk
          · obtain rfl : j = k := by omega
            rw [← HX.out, ← HLC.out]
        case measure => simp [intOf]; omega
      · go_ret
        refine ⟨⟨k, rfl, ?_⟩, hb⟩
        have : l.any badI = true := by
          rw [List.any_eq_true]
          have h1 := HN.out
          refine ⟨x, ?_, HLC.out.symm⟩
          rw [HX.out]
          simp [List.getD, show k < l.length by omega]
        rw [if_pos this]
        omega
    · obtain rfl : k = n := by omega
      have hlt' : ¬ (k : Int) < (k : Int) := by omega
      go_wp2_with fail
      go_ret
      refine ⟨⟨-1, rfl, ?_⟩, hb⟩
      have : l.any badI = false := by
        rw [List.any_eq_false]
        intro y hy
        obtain ⟨j, hj, rfl⟩ := List.getElem_of_mem hy
        have h1 := HN.out
        have h2 := hno.out j (by omega)
        simpa [List.getD, hj] using h2
      rw [this]
      rfl

theorem contInt_any {v : Value} {l : List Int} {w : World} (h : SliceR w v 1 intCell l) :
    Calls Try.prog 47 #[v, .func (.func 44) #[] #[]] w fun e w' => e = .returned (.bool (l.any badI)) ∧ Below w.heap.size w w' := by
  obtain ⟨a, cap, rfl, hcap, hm, _, hc⟩ := h.one (c := fun n => .int .i64 n) 0
  have K : Calls Try.prog 55 #[.slice a l.length cap, .func (.func 44) #[] #[]] w (SomeIdx l w) := by
    by_cases hl : l.length = 0
    · have : l = [] := List.length_eq_zero_iff.1 hl
      subst this
      exact (idxInt_none a cap _ w).mono fun e w' ⟨h1, h2⟩ => ⟨⟨-1, h1, by simp⟩, h2⟩
    · obtain ⟨b, off, rfl, hd⟩ := hc (by omega)
      unfold maxLen at hm
      exact idxInt_some b off _ cap l w rfl (by omega) hcap hm hd
  have HK := Lib.hid K
  clear K hc
  obtain ⟨c, hc⟩ : ∃ c, c = l.any badI := ⟨_, rfl⟩
  rw [← hc]
  have HCC := Lib.hid hc
  clear hc
  go_enter Try.func47, Try.ntmps47
  go_wp2_with fail
  refine HK.out.mono ?_
  rintro e w1 ⟨⟨i, rfl, hi⟩, hb⟩
  rw [← HCC.out] at hi
  cases c
  · simp only [Bool.false_eq_true, if_false] at hi
    subst hi
    go_wp2_with fail
    go_ret
    exact ⟨rfl, hb⟩
  · rw [if_pos rfl] at hi
    go_wp2_with fail
    go_ret
    exact ⟨rfl, hb⟩

end Go.Proofs.Ythkgbfeljgdnaaa
