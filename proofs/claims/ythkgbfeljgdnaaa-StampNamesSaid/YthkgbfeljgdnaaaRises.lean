/-
  stamp.Rises and the document's: whether stamps rise. No condition but that the slice reads.
-/
import Derived.Test.YthkgbfeljgdnaaaLess
import Derived.Test.YthkgbfeljgdnaaaRead
import Derived.Lib.Hide
import Derived.Outline
namespace Go.Proofs.Ythkgbfeljgdnaaa
open Go.RowKit

def lessP (x y : Int × Int) : Bool := lessB x.1 x.2 y.1 y.2
def upTo (l : List (Int × Int)) (k : Nat) : Bool := (List.range k).all fun i => lessP (l.getD i (0, 0)) (l.getD (i + 1) (0, 0))
def risesB (l : List (Int × Int)) : Bool := upTo l (l.length - 1)
theorem upTo_succ (l : List (Int × Int)) (k : Nat) : upTo l (k + 1) = (upTo l k && lessP (l.getD k (0, 0)) (l.getD (k + 1) (0, 0))) := by
  simp [upTo, List.range_succ]
theorem upTo_false (l : List (Int × Int)) (k n : Nat) (hk : k < n) (h : lessP (l.getD k (0, 0)) (l.getD (k + 1) (0, 0)) = false) : upTo l n = false := by
  unfold upTo
  rw [List.all_eq_false]
  exact ⟨k, List.mem_range.2 hk, by rw [h]; simp⟩

/-- The cells of element i of a slice of stamps. -/
theorem stamp_cells {w : World} {v : Value} {l : List (Int × Int)} (h : SliceR w v 2 stCells l) :
    ∃ a cap, v = .slice a l.length cap ∧ l.length ≤ cap ∧ cap ≤ maxLen ∧ (0 < l.length → ∃ b off, a = some ⟨b, off, none⟩ ∧ ∀ i, i < l.length →
      w.cell? ⟨b, off + i * 2, none⟩ = some (.int .i64 (l.getD i (0, 0)).1) ∧ w.cell? ⟨b, off + i * 2 + 1, none⟩ = some (.int .i64 (l.getD i (0, 0)).2)) := by
  obtain ⟨a, cap, h1, h2, h3, _, h5⟩ := h
  refine ⟨a, cap, h1, h2, h3, fun hl => ?_⟩
  obtain ⟨b, off, ha, hd⟩ := h5 hl
  refine ⟨b, off, ha, fun i hi => ?_⟩
  have e : l.getD i (0, 0) = l[i] := by simp [List.getD, hi]
  rw [e]
  exact ⟨by simpa [stCells] using hd i hi 0 (by omega), by simpa [stCells, Nat.add_assoc] using hd i hi 1 (by omega)⟩

theorem rises_few (a : Option Addr) (n cap : Nat) (l : List (Int × Int)) (w : World) (hn : n = l.length) (hl : n ≤ 1) :
    Calls Try.prog 19 #[.slice a n cap] w fun e w' => e = .returned (.bool (risesB l)) ∧ Below w.heap.size w w' := by
  have hr : risesB l = true := by
    have : l.length - 1 = 0 := by omega
    simp [risesB, upTo, this]
  rw [hr]
  clear hn hr
  have h1 : ¬ (0 : Int) < (n : Int) - 1 := by omega
  go_enter Try.func19, Try.ntmps19
  go_wp2_with fail
  refine wp_loop_rounds 1 ?_
  rw [rounds_succ]
  go_wp2
  go_ret
  exact ⟨rfl, Below.refl _ _⟩

set_option maxHeartbeats 2000000 in
theorem rises_some (b off cap : Nat) (l : List (Int × Int)) (w : World) (hl : 2 ≤ l.length) (hcap : l.length ≤ cap) (hm : cap ≤ 9223372036854775807)
    (hc : ∀ i, i < l.length → w.cell? ⟨b, off + i * 2, none⟩ = some (.int .i64 (l.getD i (0, 0)).1) ∧ w.cell? ⟨b, off + i * 2 + 1, none⟩ = some (.int .i64 (l.getD i (0, 0)).2)) :
    Calls Try.prog 19 #[.slice (some ⟨b, off, none⟩) l.length cap] w fun e w' => e = .returned (.bool (risesB l)) ∧ Below w.heap.size w w' := by
  obtain ⟨n, hn⟩ : ∃ n, n = l.length := ⟨_, rfl⟩
  rw [← hn] at hl hcap hc ⊢
  have HN := Lib.hid hn
  have HC := Lib.hid hc
  clear hn hc
  obtain ⟨r, hr⟩ : ∃ r, r = risesB l := ⟨_, rfl⟩
  rw [← hr]
  have HR := Lib.hid hr
  clear hr
  have hl' : (2 : Int) ≤ (n : Int) := by omega
  go_enter Try.func19, Try.ntmps19
  go_wp2_with fail
  go_loopw [3, 8] (fun _ i wr => ∃ k : Nat, k ≤ n - 1 ∧ i = .int .i64 k ∧ Hid (upTo l k = true) ∧ Below w.heap.size w wr) (fun _ i _ => n - (intOf i).toNat)
  case atStart => exact ⟨0, Nat.zero_le _, rfl, by rfl, Below.refl _ _⟩
  case round =>
    obtain ⟨k, hk, rfl, hup, hb⟩ := hrel
    by_cases hlt : k < n - 1
    · have hlt' : (k : Int) < (n : Int) - 1 := by omega
      have hk0 : (0 : Int) ≤ (k : Int) := by omega
      have hk1 : (k : Int) < (n : Int) := by omega
      have hk2 : (k : Int) + 1 < (n : Int) := by omega
      have c0 := HC.out k (by omega)
      have c1 := HC.out (k + 1) (by omega)
      obtain ⟨x, hx⟩ : ∃ x, x = l.getD k (0, 0) := ⟨_, rfl⟩
      obtain ⟨y, hy⟩ : ∃ y, y = l.getD (k + 1) (0, 0) := ⟨_, rfl⟩
      rw [← hx] at c0
      rw [← hy] at c1
      have HX := Lib.hid hx
      have HY := Lib.hid hy
      clear hx hy
      have c00 := keep hb c0.1
      have c01 := keep hb c0.2
      have c10 := keep hb c1.1
      have c11 := keep hb c1.2
      clear c0 c1
      have hw1 : IntKind.i64.wrap ((k : Int) + 1) = (k : Int) + 1 := IntWalk.i64_in _ (by omega)
      have hw2 : (0 : Int) ≤ (k : Int) + 1 := by omega
      have hw3 : ((k : Int) + 1).toNat = k + 1 := by omega
      obtain ⟨c, hc⟩ : ∃ c, c = lessB x.1 x.2 y.1 y.2 := ⟨_, rfl⟩
      have L : ∀ w, Calls Try.prog 18 #[.agg #[.int .i64 x.1, .int .i64 x.2], .agg #[.int .i64 y.1, .int .i64 y.2]] w fun e w' => e = .returned (.bool c) ∧ Below w.heap.size w w' := fun w => by
        rw [hc]; exact less_any _ _ _ _ w
      have HL := Lib.hid L
      have HLC := Lib.hid hc
      clear L hc
      cases c
      all_goals
        go_wp2_with fail
        refine wp_region_class (fun w' => (w'.cell? ⟨b, off + k * 2, none⟩ = some (.int .i64 x.1) ∧ w'.cell? ⟨b, off + k * 2 + 1, none⟩ = some (.int .i64 x.2) ∧ w'.cell? ⟨b, off + (k + 1) * 2, none⟩ = some (.int .i64 y.1) ∧ w'.cell? ⟨b, off + (k + 1) * 2 + 1, none⟩ = some (.int .i64 y.2)) ∧ Below w.heap.size w w') (by kernel_rfl) (by kernel_rfl) ⟨⟨by simpa using c00, by simpa using c01, by simpa using c10, by simpa using c11⟩, hb.drew⟩ ?_
        repeat
          with_reducible refine wpQuiet_step (fun K hK => ?_)
          first
            | refine quiet_not (by rfl) (hK _ ?_)
            | refine quiet_any (by rfl) ?_
              apply Exists.intro
              refine ⟨fun wq hq => ?_, hK _ ?_⟩
              · obtain ⟨⟨k0, k1, k2, k3⟩, kb⟩ := hq
                go_simp
                first
                  | done
                  | (with_reducible rfl)
                  | (go_at_call 18; refine (HL.out _).mono ?_; rintro e wz ⟨rfl, hz⟩; exact ⟨rfl, ⟨keep hz k0, keep hz k1, keep hz k2, keep hz k3⟩, kb.trans (hz.mono kb.size)⟩)
          clear hK K
          simp only [Act.put, List.setIfInBounds_toArray, List.set_cons_zero, List.set_cons_succ]
        refine wpQuiet_nil ?_
        intro wq hq
        have hbq := hq.2
        clear hq
        go_wp2_with fail
      · go_ret
        refine ⟨?_, hbq⟩
        have e : risesB l = false := by
          have h1 := HN.out
          refine upTo_false l k _ (by omega) ?_
          have h2 := HLC.out
          have h3 := HX.out
          have h4 := HY.out
          subst h3 h4
          exact h2.symm
        rw [HR.out, e]
        rfl
      · go_roundw
        case rel =>
          refine ⟨k + 1, by omega, by go_num, ?_, hbq⟩
          show upTo l (k + 1) = true
          have h2 := HLC.out
          have h3 := HX.out
          have h4 := HY.out
          subst h3 h4
          rw [upTo_succ, hup.out]
          exact h2.symm
        case measure => simp [intOf]; omega
    · obtain rfl : k = n - 1 := by omega
      have hlt' : ¬ ((n - 1 : Nat) : Int) < (n : Int) - 1 := by omega
      go_wp2_with fail
      go_ret
      refine ⟨?_, hb⟩
      rw [HR.out]
      unfold risesB
      rw [← HN.out, hup.out]
      rfl
end Go.Proofs.Ythkgbfeljgdnaaa
