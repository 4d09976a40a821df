/-
  cmp.Compare at int, topic.Fetch's function, slices.BinarySearchFunc with it. No condition but that the entries read and rise.
-/
import Derived.Test.YtolgkadoplalnaaAddP
import Derived.Deep.LoopGhost
import Derived.WalkLawsBesides
namespace Go.Proofs.Ytolgkadoplalnaa
open Go.RowKit

theorem isNaN_any (n : Int) (w : World) : Calls Try.prog 58 #[.int .i64 n] w fun e w' => e = .returned (.bool false) ∧ w = w' := by
  have e : (n != n) = false := by simp
  go_enter Try.func58, Try.ntmps58
  go_wp2_with fail
  go_ret
  exact ⟨rfl, rfl⟩
def cmpI (a b : Int) : Int := if a < b then -1 else if b < a then 1 else 0
theorem compare_any (a b : Int) (w : World) : Calls Try.prog 54 #[.int .i64 a, .int .i64 b] w fun e w' => e = .returned (.int .i64 (cmpI a b)) ∧ w = w' := by
  have L1 := Lib.hid (fun w => isNaN_any a w)
  have L2 := Lib.hid (fun w => isNaN_any b w)
  by_cases h1 : a < b
  · rw [show cmpI a b = -1 by simp [cmpI, h1]]
    go_enter Try.func54, Try.ntmps54
    go_wp2_with fail
    refine (L1.out _).mono ?_
    rintro e w1 ⟨rfl, rfl⟩
    go_wp2_with fail
    refine (L2.out _).mono ?_
    rintro e w1 ⟨rfl, rfl⟩
    go_wp2_with fail
    go_ret
    exact ⟨rfl, rfl⟩
  · by_cases h2 : b < a
    · rw [show cmpI a b = 1 by simp [cmpI, h1, h2]]
      go_enter Try.func54, Try.ntmps54
      go_wp2_with fail
      refine (L1.out _).mono ?_
      rintro e w1 ⟨rfl, rfl⟩
      go_wp2_with fail
      refine (L2.out _).mono ?_
      rintro e w1 ⟨rfl, rfl⟩
      go_wp2_with fail
      go_ret
      exact ⟨rfl, rfl⟩
    · rw [show cmpI a b = 0 by simp [cmpI, h1, h2]]
      go_enter Try.func54, Try.ntmps54
      go_wp2_with fail
      refine (L1.out _).mono ?_
      rintro e w1 ⟨rfl, rfl⟩
      go_wp2_with fail
      refine (L2.out _).mono ?_
      rintro e w1 ⟨rfl, rfl⟩
      go_wp2_with fail
      go_ret
      exact ⟨rfl, rfl⟩

theorem fetch1_any (x : Ent) (n : Int) (w : World) : Calls Try.prog 53 #[.agg #[.int .i64 x.off, .int .i64 x.id, .string x.key, .string x.body], .int .i64 n] w fun e w' => e = .returned (.int .i64 (cmpI x.off n)) ∧ Below w.heap.size w w' := by
  obtain ⟨c, hc⟩ : ∃ c, c = cmpI x.off n := ⟨_, rfl⟩
  have L := fun w => compare_any x.off n w
  rw [← hc] at L ⊢
  have HL := Lib.hid L
  clear L hc
  go_enter Try.func53, Try.ntmps53
  go_wp2_with fail
  refine (HL.out _).mono ?_
  rintro e w1 ⟨rfl, rfl⟩
  go_wp2_with fail
  go_ret
  exact ⟨rfl, (Below.refl _ _).alloc (Nat.le_refl _) _⟩

/-- What a search among entries that rise answers. -/
def BsEnd (l : List Ent) (o : Int) (w : World) (e : Ending) (w' : World) : Prop :=
  (∃ (i : Nat) (b : Bool), e = .returned (.tuple #[.int .i64 (i : Int), .bool b]) ∧ (b = true → i < l.length ∧ (l.getD i default).off = o) ∧ (b = false → ∀ j, j < l.length → (l.getD j default).off ≠ o)) ∧ Below w.heap.size w w'

set_option maxHeartbeats 1000000 in
theorem bs_any {v : Value} {l : List Ent} {w : World} (o : Int) (h : SliceR w v 4 entCells l) (hr : rises l) (hl : l.length ≤ 1000000) :
    Calls Try.prog 52 #[v, .int .i64 o, .func (.func 53) #[] #[]] w (BsEnd l o w) := by
  obtain ⟨a, cap, hv, _⟩ := id h
  subst hv
  obtain ⟨⟨_, hcap⟩, ⟨hmax, _⟩, hd⟩ := h.ents
  unfold maxLen at hmax
  have HD := Lib.hid hd
  have HR := Lib.hid hr
  obtain ⟨n, hn⟩ : ∃ n, n = l.length := ⟨_, rfl⟩
  rw [← hn] at HD hcap hl ⊢
  have HN := Lib.hid hn
  clear hn hd h hr
  have hn' : (n : Int) ≤ 1000000 := by omega
  go_enter Try.func52, Try.ntmps52
  go_wp2_with fail
  go_loopg [9, 10] n (fun g i j wr => ∃ p q : Nat, p ≤ q ∧ q ≤ n ∧ g = q - p ∧ i = .int .i64 (p : Int) ∧ j = .int .i64 (q : Int) ∧ Hid (∀ k, k < p → (l.getD k default).off < o) ∧ Hid (∀ k, q ≤ k → k < n → o ≤ (l.getD k default).off) ∧ Hid (Below w.heap.size w wr))
  case atStart => exact ⟨0, n, Nat.zero_le _, Nat.le_refl _, rfl, rfl, rfl, (fun k hk => absurd hk (Nat.not_lt_zero _)), (fun k h1 h2 => by omega), Below.refl _ _⟩
  case round =>
    obtain ⟨p, q, hpq, hqn, rfl, rfl, rfl, hlo, hhi, hb⟩ := hrel
    by_cases hlt : p < q
    · have hk1 : (p : Int) < (q : Int) := by omega
      obtain ⟨m, hm⟩ : ∃ m : Nat, ((p : Int) + (q : Int)) / 2 = (m : Int) := ⟨(p + q) / 2, by omega⟩
      have m1 : p ≤ m ∧ m < q ∧ m < n := by omega
      obtain ⟨m1, m2, m3⟩ := m1
      have m4 : (0 : Int) ≤ (m : Int) := by omega
      have m5 : (m : Int) < (n : Int) := by omega
      obtain ⟨bb, off, ha, hcc⟩ := HD.out (by omega)
      subst ha
      have cc := hcc m (by rw [← HN.out]; exact m3)
      clear hcc
      obtain ⟨x, hx⟩ : ∃ x, x = l.getD m default := ⟨_, rfl⟩
      rw [← hx] at cc
      have c0 := keep hb.out cc.1.1.1
      have c1 := keep hb.out cc.1.1.2
      have c2 := keep hb.out cc.1.2
      have c3 := keep hb.out cc.2
      have HX := Lib.hid hx
      obtain ⟨c, hc⟩ : ∃ c, c = cmpI x.off o := ⟨_, rfl⟩
      have L := fun w => fetch1_any x o w
      rw [← hc] at L
      have HLL := Lib.hid L
      have HCC := Lib.hid hc
      clear cc hx L hc
      by_cases hlo2 : x.off < o
      · have c4 : c < 0 := by rw [HCC.out]; simp [cmpI, hlo2]
        have HLO := Lib.hid (show ∀ k, k < m + 1 → (l.getD k default).off < o by
          intro k hk
          by_cases hkm : k = m
          · subst hkm; rw [← HX.out]; exact hlo2
          · have := rises_lt HR.out (j := k) (k := m) (by omega) (by rw [← HN.out]; exact m3)
            rw [← HX.out] at this
            omega)
        clear hlo2
        go_wp2_with fail
        refine (HLL.out _).mono ?_
        rintro e w1 ⟨rfl, hb1⟩
        have HB1 := Lib.hid (hb.out.trans (hb1.mono hb.out.size))
        clear hb1 hb c0 c1 c2 c3
        go_wp2_with fail
        go_roundg (q - (m + 1))
        case measure => omega
        case rel => exact ⟨m + 1, q, by omega, hqn, rfl, by go_num, rfl, HLO, hhi, HB1⟩
      · have c4 : ¬ c < 0 := by rw [HCC.out]; simp only [cmpI, hlo2, if_false]; split <;> omega
        have HHI := Lib.hid (show ∀ k, m ≤ k → k < n → o ≤ (l.getD k default).off by
          intro k hk hkn
          by_cases hkm : k = m
          · subst hkm; rw [← HX.out]; omega
          · have := rises_lt HR.out (j := m) (k := k) (by omega) (by rw [← HN.out]; exact hkn)
            rw [← HX.out] at this
            omega)
        clear hlo2
        go_wp2_with fail
        refine (HLL.out _).mono ?_
        rintro e w1 ⟨rfl, hb1⟩
        have HB1 := Lib.hid (hb.out.trans (hb1.mono hb.out.size))
        clear hb1 hb c0 c1 c2 c3
        go_wp2_with fail
        go_roundg (m - p)
        case measure => omega
        case rel => exact ⟨p, m, by omega, by omega, rfl, rfl, by go_num, hlo, HHI, HB1⟩
    · obtain rfl : p = q := by omega
      have hlt' : ¬ (p : Int) < (p : Int) := by omega
      by_cases hpn : p < n
      · have m4 : (0 : Int) ≤ (p : Int) := by omega
        have m5 : (p : Int) < (n : Int) := by omega
        obtain ⟨bb, off, ha, hcc⟩ := HD.out (by omega)
        subst ha
        have cc := hcc p (by rw [← HN.out]; exact hpn)
        clear hcc
        obtain ⟨x, hx⟩ : ∃ x, x = l.getD p default := ⟨_, rfl⟩
        rw [← hx] at cc
        have c0 := keep hb.out cc.1.1.1
        have c1 := keep hb.out cc.1.1.2
        have c2 := keep hb.out cc.1.2
        have c3 := keep hb.out cc.2
        have HX := Lib.hid hx
        obtain ⟨c, hc⟩ : ∃ c, c = cmpI x.off o := ⟨_, rfl⟩
        have L := fun w => fetch1_any x o w
        rw [← hc] at L
        have HLL := Lib.hid L
        have HCC := Lib.hid hc
        clear cc hx L hc
        go_wp2_with fail
        refine (HLL.out _).mono ?_
        rintro e w1 ⟨rfl, hb1⟩
        have HB1 := Lib.hid (hb.out.trans (hb1.mono hb.out.size))
        clear hb1 hb c0 c1 c2 c3
        go_wp2_with fail
        go_ret2
        refine ⟨⟨p, c == 0, rfl, fun h => ⟨by rw [← HN.out]; exact hpn, ?_⟩, fun h j hj he => ?_⟩, HB1.out⟩
        · rw [← HX.out]
          have h0 : c = 0 := by simpa using h
          have h1 := HCC.out
          rw [h0, cmpI] at h1
          by_cases a1 : x.off < o
          · simp [a1] at h1
          · by_cases a2 : o < x.off
            · simp [a1, a2] at h1
            · omega
        · have h0 : c ≠ 0 := by simpa using h
          have h1 := HCC.out
          have a0 : x.off ≠ o := fun e => h0 (by rw [h1, e]; simp [cmpI])
          have a1 := hhi.out p (Nat.le_refl _) hpn
          rw [← HX.out] at a1
          by_cases hjp : j < p
          · have := hlo.out j hjp; omega
          · by_cases hj2 : j = p
            · subst hj2; rw [← HX.out] at he; exact a0 he
            · have := rises_lt HR.out (j := p) (k := j) (by omega) hj
              rw [← HX.out] at this
              omega
      · obtain rfl : p = n := by omega
        go_wp2_with fail
        go_ret2
        refine ⟨⟨p, false, rfl, (fun h => by cases h), fun _ j hj he => ?_⟩, hb.out⟩
        have := hlo.out j (by rw [HN.out]; exact hj)
        omega
end Go.Proofs.Ytolgkadoplalnaa
