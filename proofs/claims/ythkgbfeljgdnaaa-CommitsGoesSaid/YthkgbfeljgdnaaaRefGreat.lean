/-
  The document's commits: are they more than statements go through, may they be. No condition but that the slices read.
-/
import Derived.Test.YthkgbfeljgdnaaaComCheck
import Derived.Test.YthkgbfeljgdnaaaComTwin
namespace Go.Proofs.Ythkgbfeljgdnaaa
open Go.RowKit

def tot (m : List (List Int)) (k : Nat) : Nat := ((m.take k).map fun r => r.length + 1).sum
theorem tot_succ (m : List (List Int)) (k : Nat) (h : k < m.length) : tot m (k + 1) = tot m k + ((m.getD k []).length + 1) := by
  unfold tot
  rw [List.take_succ_eq_append_getElem h, List.map_append, List.sum_append]
  simp [List.getD, h]
theorem tot_few (m : List (List Int)) (h : tot m m.length ≤ 1000) : few m := by
  unfold tot at h
  rw [List.take_length] at h
  constructor
  · have : ∀ l : List (List Int), l.length ≤ (l.map fun r => r.length + 1).sum := by
      intro l
      induction l with
      | nil => simp
      | cons x l ih => simp; omega
    exact Nat.le_trans (this m) h
  · intro r hr
    have : ∀ l : List (List Int), r ∈ l → r.length ≤ (l.map fun r => r.length + 1).sum := by
      intro l
      induction l with
      | nil => simp
      | cons x l ih =>
        intro hm
        simp only [List.map_cons, List.sum_cons]
        rcases List.mem_cons.1 hm with rfl | h2
        · omega
        · have := ih h2; omega
    exact Nat.le_trans (this m hr) h

def GreatEnd (m : List (List Int)) (w : World) (e : Ending) (w' : World) : Prop := (∃ g, e = .returned (.bool g) ∧ (g = false → few m)) ∧ w = w'

theorem great_none (a : Option Addr) (cap : Nat) (w : World) : Calls Try.prog 30 #[.slice a 0 cap] w (GreatEnd [] w) := by
  go_enter Try.func30, Try.ntmps30
  go_wp2_with fail
  refine wp_loop_rounds 1 ?_
  rw [rounds_succ]
  go_wp2
  go_ret
  exact ⟨⟨false, rfl, fun _ => ⟨by simp, by simp⟩⟩, rfl⟩

set_option maxHeartbeats 1000000 in
theorem great_some (b off n cap : Nat) (us : List Value) (m : List (List Int)) (w : World) (hn : n = m.length) (hl : 0 < n) (hcap : n ≤ cap) (hm : cap ≤ 9223372036854775807) (hw : ∀ r ∈ m, r.length ≤ 17592186044416)
    (hc : ∀ i, i < n → w.cell? ⟨b, off + i, none⟩ = some (us.getD i .nilIface)) (hr : ∀ i, i < n → SliceR w (us.getD i .nilIface) 1 intCell (m.getD i [])) :
    Calls Try.prog 30 #[.slice (some ⟨b, off, none⟩) n cap] w (GreatEnd m w) := by
  have HC := Lib.hid hc
  have HR := Lib.hid hr
  have HN := Lib.hid hn
  have HW := Lib.hid hw
  clear hn hc hr hw
  have hn' : (n : Int) ≤ 9223372036854775807 := by omega
  go_enter Try.func30, Try.ntmps30
  go_wp2_with fail
  go_loop [3, 4] (fun t i => ∃ k s : Nat, k ≤ n ∧ i = .int .i64 (k : Int) ∧ t = .int .i64 (s : Int) ∧ s ≤ 20000000000000 ∧ Hid (s = tot m k)) (fun _ i => n - (intOf i).toNat)
  case atStart => exact ⟨0, 0, Nat.zero_le _, rfl, rfl, by omega, by rfl⟩
  case round =>
    obtain ⟨k, s, hk, rfl, rfl, hs, hst⟩ := hrel
    by_cases hlt : k < n
    · have hk0 : (0 : Int) ≤ (k : Int) := by omega
      have hk1 : (k : Int) < (n : Int) := by omega
      by_cases hsm : s ≤ 1000
      · have hs1 : (s : Int) ≤ 1000 := by omega
        have c0 := HC.out k hlt
        have r0 := HR.out k hlt
        obtain ⟨u, hu⟩ : ∃ u, u = us.getD k .nilIface := ⟨_, rfl⟩
        rw [← hu] at c0 r0
        clear hu
        obtain ⟨r, hr⟩ : ∃ r, r = m.getD k [] := ⟨_, rfl⟩
        rw [← hr] at r0
        have hrl : r.length ≤ 17592186044416 := by
          have h1 := HN.out
          have : m.getD k [] ∈ m := by
            have e : m.getD k [] = m[k]'(by omega) := by simp [List.getD, show k < m.length by omega]
            rw [e]; exact List.getElem_mem _
          rw [hr]
          exact HW.out _ this
        have HRR := Lib.hid hr
        clear hr
        obtain ⟨ua, ucap, hua, _⟩ := r0
        subst hua
        obtain ⟨rl, hrl'⟩ : ∃ rl, rl = r.length := ⟨_, rfl⟩
        rw [← hrl'] at c0 hrl
        have HRL := Lib.hid hrl'
        clear hrl'
        go_wp2_with fail
        go_round
        case rel =>
          refine ⟨k + 1, s + (rl + 1), by omega, by go_num, by go_num, by omega, ?_⟩
          show s + (rl + 1) = tot m (k + 1)
          have h1 := HN.out
          rw [tot_succ m k (by omega), hst.out, HRL.out, HRR.out]
        case measure => simp [intOf]; omega
      · have hs1 : ¬ (s : Int) ≤ 1000 := by omega
        have hd : decide ((1000 : Int) < (s : Int)) = true := by simp; omega
        go_wp2_with fail
        go_ret
        exact ⟨⟨true, by simp, fun h => by cases h⟩, rfl⟩
    · obtain rfl : k = n := by omega
      have hlt' : ¬ (k : Int) < (k : Int) := by omega
      go_wp2_with fail
      go_ret
      refine ⟨⟨decide ((1000 : Int) < (s : Int)), by simp, fun h => tot_few m ?_⟩, rfl⟩
      rw [← HN.out, ← hst.out]
      have h' : ¬ (1000 : Int) < (s : Int) := by simpa using h
      omega

theorem great_any {v : Value} {m : List (List Int)} {w : World} (h : RowsR w v m) (hw : ∀ r ∈ m, r.length ≤ 17592186044416) : Calls Try.prog 30 #[v] w (GreatEnd m w) := by
  obtain ⟨us, h1, h2, h3⟩ := h
  obtain ⟨a, cap, rfl, hcap, hm, _, hc⟩ := h1.one (c := fun u => u) .nilIface
  by_cases hl : us.length = 0
  · have : m = [] := List.length_eq_zero_iff.1 (by omega)
    subst this
    rw [hl]
    exact great_none a cap w
  · obtain ⟨b, off, rfl, hd⟩ := hc (by omega)
    unfold maxLen at hm
    exact great_some b off _ cap us m w h2 (by omega) hcap hm hw hd (fun i hi => h3 i (by omega))

end Go.Proofs.Ythkgbfeljgdnaaa
