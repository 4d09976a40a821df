/-
  slices.IndexFunc at entries with keep.Trim's closure: the first entry from an offset on. No condition but that the slice reads.
-/
import Derived.Test.YtolgkadoplalnaaTwin17
import Derived.Deep.LoopGhost
namespace Go.Proofs.Ytolgkadoplalnaa
open Go.RowKit

theorem trim1 (x : Ent) (tb : Nat) (b : Int) (w : World) (hc : w.cell? ⟨tb, 0, none⟩ = some (.int .i64 b)) :
    Calls Try.prog 43 #[.agg #[.int .i64 x.off, .int .i64 x.id, .string x.key, .string x.body], .pointer (some ⟨tb, 0, none⟩)] w fun e w' => e = .returned (.bool (decide (b ≤ x.off))) ∧ Below w.heap.size w w' := by
  have hlt := World.block_lt_of_cell? w _ hc
  have hlt' : tb < w.heap.size := hlt
  go_enter Try.func43, Try.ntmps43
  go_wp2_with fail
  go_ret
  exact ⟨rfl, (Below.refl _ _).alloc (Nat.le_refl _) _⟩

/-- The first entry from b on: its place i. -/
def FirstAt (l : List Ent) (b i : Int) : Prop :=
  (i = -1 ∧ ∀ j, j < l.length → (l.getD j default).off < b) ∨ ∃ k : Nat, k < l.length ∧ i = (k : Int) ∧ (∀ j, j < k → (l.getD j default).off < b) ∧ b ≤ (l.getD k default).off
def IdxEnd (l : List Ent) (b : Int) (w : World) (e : Ending) (w' : World) : Prop := (∃ i : Int, e = .returned (.int .i64 i) ∧ FirstAt l b i) ∧ Below w.heap.size w w'

set_option maxHeartbeats 1000000 in
theorem idx18_any {v : Value} {l : List Ent} {w : World} (h : SliceR w v 4 entCells l) (tb : Nat) (b : Int) (hc : w.cell? ⟨tb, 0, none⟩ = some (.int .i64 b)) :
    Calls Try.prog 42 #[v, .func (.func 43) #[] #[.pointer (some ⟨tb, 0, none⟩)]] w (IdxEnd l b w) := by
  obtain ⟨a, cap, hv, _⟩ := id h
  subst hv
  obtain ⟨⟨_, hcap⟩, ⟨hmax, _⟩, hd⟩ := h.ents
  unfold maxLen at hmax
  have HT := Lib.hid hc
  have HD := Lib.hid hd
  obtain ⟨n, hn⟩ : ∃ n, n = l.length := ⟨_, rfl⟩
  rw [← hn] at HD hcap ⊢
  have HN := Lib.hid hn
  clear hn hd h hc
  have hn' : (n : Int) ≤ 9223372036854775807 := by omega
  go_enter Try.func42, Try.ntmps42
  go_wp2_with fail
  go_loopg [5, 8] n (fun g _ i wr => ∃ k : Nat, k ≤ n ∧ g = n - k ∧ i = .int .i64 (k : Int) ∧ Hid (∀ j, j < k → (l.getD j default).off < b) ∧ Hid (Below w.heap.size w wr))
  case atStart => exact ⟨0, Nat.zero_le _, rfl, rfl, (fun j hj => absurd hj (Nat.not_lt_zero _)), Below.refl _ _⟩
  case round =>
    obtain ⟨k, hk, rfl, rfl, hall, hb⟩ := hrel
    by_cases hlt : k < n
    · have hk0 : (0 : Int) ≤ (k : Int) := by omega
      have hk1 : (k : Int) < (n : Int) := by omega
      obtain ⟨bb, off, ha, h1⟩ := HD.out (by omega)
      subst ha
      have cc := h1 k (by rw [← HN.out]; exact hlt)
      clear h1
      obtain ⟨x, hx⟩ : ∃ x, x = l.getD k default := ⟨_, rfl⟩
      rw [← hx] at cc
      have HX := Lib.hid hx
      have c0 := keep hb.out cc.1.1.1
      have c1 := keep hb.out cc.1.1.2
      have c2 := keep hb.out cc.1.2
      have c3 := keep hb.out cc.2
      clear hx cc
      obtain ⟨q, hq⟩ : ∃ q, q = decide (b ≤ x.off) := ⟨_, rfl⟩
      have L := trim1 x tb b wr (keep hb.out HT.out)
      rw [← hq] at L
      have HL := Lib.hid L
      have HQ := Lib.hid hq
      clear L hq
      cases q
      all_goals
        go_wp2_with fail
        refine HL.out.mono ?_
        rintro e w1 ⟨rfl, hb1⟩
        have HB2 := Lib.hid (hb.out.trans (hb1.mono hb.out.size))
        clear hb hb1 c0 c1 c2 c3
        go_wp2_with fail
      · go_roundg (n - (k + 1))
        case measure => omega
        case rel =>
          refine ⟨k + 1, by omega, rfl, by go_num, fun j hj => ?_, HB2⟩
          by_cases hjk : j < k
          · exact hall.out j hjk
          · obtain rfl : j = k := by omega
            have := of_decide_eq_false HQ.out.symm
            rw [HX.out] at this
            omega
      · go_ret
        refine ⟨⟨k, rfl, Or.inr ⟨k, by rw [← HN.out]; exact hlt, rfl, hall.out, ?_⟩⟩, HB2.out⟩
        have := of_decide_eq_true HQ.out.symm
        rw [HX.out] at this
        exact this
    · obtain rfl : k = n := by omega
      have hlt' : ¬ (k : Int) < (k : Int) := by omega
      go_wp2_with fail
      go_ret
      exact ⟨⟨-1, rfl, Or.inl ⟨rfl, by rw [← HN.out]; exact hall.out⟩⟩, hb.out⟩
end Go.Proofs.Ytolgkadoplalnaa
