/-
  commits.Check, commits.asked, commits.Get. No condition but that the slices read.
-/
import Derived.Test.YthkgbfeljgdnaaaIdxInt
namespace Go.Proofs.Ythkgbfeljgdnaaa
open Go.RowKit

def rowBad (l : List Int) : Bool := decide (l.length ≠ 8) || l.any badI
theorem rowBad_any {v : Value} {l : List Int} {w : World} {pb : Nat} (h : SliceR w v 1 intCell l) (hp : w.cell? ⟨pb, 0, none⟩ = some (.func (.func 44) #[] #[])) :
    Calls Try.prog 46 #[v, .pointer (some ⟨pb, 0, none⟩)] w fun e w' => e = .returned (.bool (rowBad l)) ∧ Below w.heap.size w w' := by
  have K := Lib.hid (contInt_any h)
  obtain ⟨a, cap, rfl, _⟩ := h
  by_cases h8 : l.length = 8
  · have e8 : rowBad l = l.any badI := by simp [rowBad, h8]
    rw [e8]
    obtain ⟨c, hc⟩ : ∃ c, c = l.any badI := ⟨_, rfl⟩
    rw [← hc] at K ⊢
    clear hc
    have hd : ((l.length : Int) != 8) = false := by simp; omega
    clear e8 h8
    cases c
    all_goals
      go_enter Try.func46, Try.ntmps46
      go_wp2_with fail
      refine K.out.mono ?_
      rintro e w1 ⟨rfl, hb⟩
      go_wp2_with fail
      go_ret
      exact ⟨rfl, hb⟩
  · have e8 : rowBad l = true := by simp [rowBad, h8]
    rw [e8]
    have hd : ((l.length : Int) != 8) = true := by simp; omega
    clear e8 h8 K
    go_enter Try.func46, Try.ntmps46
    go_wp2_with fail
    go_ret
    exact ⟨rfl, Below.refl _ _⟩

theorem idxRow_none (a : Option Addr) (cap : Nat) (f : Value) (w : World) : Calls Try.prog 54 #[.slice a 0 cap, f] w fun e w' => e = .returned (.int .i64 (-1)) ∧ Below w.heap.size w w' := by
  go_enter Try.func54, Try.ntmps54
  go_wp2_with fail
  refine wp_loop_rounds 1 ?_
  rw [rounds_succ]
  go_wp2
  go_ret
  exact ⟨rfl, Below.refl _ _⟩

def SomeRow (m : List (List Int)) (w : World) (e : Ending) (w' : World) : Prop := (∃ i : Int, e = .returned (.int .i64 i) ∧ (if m.any rowBad then 0 ≤ i else i = -1)) ∧ Below w.heap.size w w'

theorem idxRow_some (b off n cap pb : Nat) (us : List Value) (m : List (List Int)) (w : World) (hn : n = m.length) (hl : 0 < n) (hcap : n ≤ cap) (hm : cap ≤ 9223372036854775807)
    (hc : ∀ i, i < n → w.cell? ⟨b, off + i, none⟩ = some (us.getD i .nilIface)) (hr : ∀ i, i < n → SliceR w (us.getD i .nilIface) 1 intCell (m.getD i []))
    (hp : w.cell? ⟨pb, 0, none⟩ = some (.func (.func 44) #[] #[])) :
    Calls Try.prog 54 #[.slice (some ⟨b, off, none⟩) n cap, .func (.func 46) #[] #[.pointer (some ⟨pb, 0, none⟩)]] w (SomeRow m w) := by
  have HC := Lib.hid hc
  have HR := Lib.hid hr
  have HN := Lib.hid hn
  have HP := Lib.hid hp
  clear hn hc hr hp
  have hl' : (0 : Int) < (n : Int) := by omega
  go_enter Try.func54, Try.ntmps54
  go_wp2_with fail
  go_loopw [5, 8] (fun _ i wr => ∃ k : Nat, k ≤ n ∧ i = .int .i64 (k : Int) ∧ Hid (∀ j, j < k → rowBad (m.getD j []) = false) ∧ Below w.heap.size w wr) (fun _ i _ => n - (intOf i).toNat)
  case atStart => exact ⟨0, Nat.zero_le _, rfl, (fun j hj => absurd hj (Nat.not_lt_zero _)), Below.refl _ _⟩
  case round =>
    obtain ⟨k, hk, rfl, hno, hb⟩ := hrel
    by_cases hlt : k < n
    · have hk0 : (0 : Int) ≤ (k : Int) := by omega
      have hk1 : (k : Int) < (n : Int) := by omega
      have c0 := keep hb (HC.out k hlt)
      have r0 := (HR.out k hlt).below (fun _ => rfl) hb
      have p0 := keep hb HP.out
      obtain ⟨u, hu⟩ : ∃ u, u = us.getD k .nilIface := ⟨_, rfl⟩
      rw [← hu] at c0 r0
      clear hu
      obtain ⟨x, hx⟩ : ∃ x, x = m.getD k [] := ⟨_, rfl⟩
      rw [← hx] at r0
      have HX := Lib.hid hx
      clear hx
      obtain ⟨c, hc⟩ : ∃ c, c = rowBad x := ⟨_, rfl⟩
      have L := rowBad_any r0 p0
      rw [← hc] at L
      obtain ⟨ua, ucap, hua, _⟩ := r0
      subst hua
      have HL := Lib.hid L
      have HLC := Lib.hid hc
      clear L hc p0
      cases c
      all_goals
        go_wp2_with fail
        refine HL.out.mono ?_
        rintro e w1 ⟨rfl, hb1⟩
        have hb2 := hb.trans (hb1.mono hb.size)
        clear hb hb1 c0
        go_wp2_with fail
      · go_roundw
        case rel =>
          refine ⟨k + 1, by omega, by go_num, fun j hj => ?_, hb2⟩
          by_cases hjk : j < k
          · exact hno.out j hjk
          · obtain rfl : j = k := by omega
            rw [← HX.out, ← HLC.out]
        case measure => simp [intOf]; omega
      · go_ret
        refine ⟨⟨k, rfl, ?_⟩, hb2⟩
        have : m.any rowBad = true := by
          rw [List.any_eq_true]
          have h1 := HN.out
          refine ⟨x, ?_, HLC.out.symm⟩
          rw [HX.out]
          simp [List.getD, show k < m.length by omega]
        rw [if_pos this]
        omega
    · obtain rfl : k = n := by omega
      have hlt' : ¬ (k : Int) < (k : Int) := by omega
      go_wp2_with fail
      go_ret
      refine ⟨⟨-1, rfl, ?_⟩, hb⟩
      have : m.any rowBad = false := by
        rw [List.any_eq_false]
        intro y hy
        obtain ⟨j, hj, rfl⟩ := List.getElem_of_mem hy
        have h1 := HN.out
        have h2 := hno.out j (by omega)
        simpa [List.getD, hj] using h2
      rw [this]
      rfl

theorem contRow_any {v : Value} {m : List (List Int)} {w : World} {pb : Nat} (h : RowsR w v m) (hp : w.cell? ⟨pb, 0, none⟩ = some (.func (.func 44) #[] #[])) :
    Calls Try.prog 45 #[v, .func (.func 46) #[] #[.pointer (some ⟨pb, 0, none⟩)]] w fun e w' => e = .returned (.bool (m.any rowBad)) ∧ Below w.heap.size w w' := by
  obtain ⟨us, h1, h2, h3⟩ := h
  obtain ⟨a, cap, rfl, hcap, hm, _, hc⟩ := h1.one (c := fun u => u) .nilIface
  have K : Calls Try.prog 54 #[.slice a us.length cap, .func (.func 46) #[] #[.pointer (some ⟨pb, 0, none⟩)]] w (SomeRow m w) := by
    by_cases hl : us.length = 0
    · have : m = [] := List.length_eq_zero_iff.1 (by omega)
      subst this
      rw [hl]
      exact (idxRow_none a cap _ w).mono fun e w' ⟨h1, h2⟩ => ⟨⟨-1, h1, by simp⟩, h2⟩
    · obtain ⟨b, off, rfl, hd⟩ := hc (by omega)
      unfold maxLen at hm
      exact idxRow_some b off _ cap pb us m w h2 (by omega) hcap hm hd (fun i hi => h3 i (by omega)) hp
  have HK := Lib.hid K
  clear K hc h3 hp h2
  obtain ⟨c, hc⟩ : ∃ c, c = m.any rowBad := ⟨_, rfl⟩
  rw [← hc]
  have HCC := Lib.hid hc
  clear hc
  go_enter Try.func45, Try.ntmps45
  go_wp2_with fail
  refine HK.out.mono ?_
  rintro e w1 ⟨⟨i, rfl, hi⟩, hb⟩
  rw [← HCC.out] at hi
  cases c
  · simp only [Bool.false_eq_true, if_false] at hi
    subst hi
    go_wp2_with fail
    go_ret
    exact ⟨rfl, hb⟩
  · rw [if_pos rfl] at hi
    go_wp2_with fail
    go_ret
    exact ⟨rfl, hb⟩

def okC (m : List (List Int)) : Bool := decide (m.length = 4) && !m.any rowBad

theorem comCheck_any {v : Value} {m : List (List Int)} {w : World} (h : RowsR w v m) :
    Calls Try.prog 29 #[v] w fun e w' => e = .returned (.int .i64 (if okC m then 0 else 8)) ∧ Below w.heap.size w w' := by
  have h0 := Lib.hid h
  obtain ⟨us, h1, h2, h3⟩ := h
  obtain ⟨a, cap, rfl, hcap, hm, _, hc⟩ := h1.one (c := fun u => u) .nilIface
  clear hc h3 h1
  obtain ⟨n, hn⟩ : ∃ n, n = us.length := ⟨_, rfl⟩
  rw [← hn] at h0 hcap ⊢
  rw [← hn] at h2
  by_cases h4 : n = 4
  · have e4 : okC m = !m.any rowBad := by simp [okC, ← h2, h4]
    rw [e4]
    obtain ⟨c, hc⟩ : ∃ c, c = m.any rowBad := ⟨_, rfl⟩
    rw [← hc]
    have HLC := Lib.hid hc
    clear hc e4 h2 hn
    have hd : ((n : Int) != 4) = false := by simp; omega
    clear h4
    go_enter Try.func29, Try.ntmps29
    go_wp2_with fail
    refine (contRow_any (h0.out.below ?_) ?_).mono ?_
    · exact ((Below.refl _ _).alloc (Nat.le_refl _) _)
    · go_simp
    rintro e w1 ⟨rfl, hb⟩
    rw [← HLC.out]
    have hb' : Below w.heap.size w w1 := ((Below.refl _ _).alloc (Nat.le_refl _) _).trans (hb.mono (by simp))
    clear hb
    cases c
    all_goals
      go_wp2_with fail
      go_ret
      exact ⟨rfl, hb'⟩
  · have e4 : okC m = false := by simp [okC, ← h2, h4]
    rw [e4]
    have hd : ((n : Int) != 4) = true := by simp; omega
    clear h4 e4 h0 hn h2
    go_enter Try.func29, Try.ntmps29
    go_wp2_with fail
    go_ret
    exact ⟨rfl, by repeat (first | exact Below.refl _ _ | (refine Below.setCell ?_ (by simp) _) | (refine Below.alloc ?_ (by simp) _))⟩

end Go.Proofs.Ythkgbfeljgdnaaa
