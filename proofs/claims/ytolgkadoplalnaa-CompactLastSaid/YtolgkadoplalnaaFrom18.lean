/-
  The document's From: the entries from an offset on. No condition but that the slice reads and is not very long.
-/
import Derived.Test.YtolgkadoplalnaaTwin17
import Derived.Deep.LoopGhost
namespace Go.Proofs.Ytolgkadoplalnaa
open Go.RowKit

def fromE (b : Int) (l : List Ent) : List Ent := l.filter fun x => decide (b ≤ x.off)
theorem fromE_len (b : Int) (l : List Ent) : (fromE b l).length ≤ l.length := List.length_filter_le _ _
theorem take_succ_ent {l : List Ent} {k : Nat} (h : k < l.length) : l.take (k + 1) = l.take k ++ [l.getD k default] := by
  rw [List.take_succ_eq_append_getElem h]
  simp [List.getD, h]

set_option maxHeartbeats 1000000 in
theorem from18_any {v : Value} {l : List Ent} {w : World} (b : Int) (h : SliceR w v 4 entCells l) (hl : l.length ≤ 1000000) :
    Calls Try.prog 46 #[v, .int .i64 b] w (CloneEnd (fromE b l) w) := by
  obtain ⟨i0, hi, hz0, hz1, hz2⟩ := info_parts info_ent
  obtain ⟨a, cap, hv, _⟩ := id h
  subst hv
  obtain ⟨⟨_, hcap⟩, ⟨hmax, _⟩, hd⟩ := h.ents
  have HD := Lib.hid hd
  obtain ⟨n, hn⟩ : ∃ n, n = l.length := ⟨_, rfl⟩
  rw [← hn] at HD hcap hl ⊢
  have HN := Lib.hid hn
  clear hn hd h hmax hcap
  have hn' : (n : Int) ≤ 1000000 := by omega
  go_enter Try.func46, Try.ntmps46
  go_wp2_with fail
  go_loopg [5, 6] n (fun g o i wr => ∃ k : Nat, k ≤ n ∧ g = n - k ∧ i = .int .i64 (k : Int) ∧ Hid (OwnE wr w.heap.size o (fromE b (l.take k))) ∧ Hid (Below w.heap.size w wr))
  case atStart => exact ⟨0, Nat.zero_le _, rfl, rfl, World.ownsRow_nil _ _ _ _, Below.refl _ _⟩
  case round =>
    obtain ⟨k, hk, rfl, rfl, hown, hb⟩ := hrel
    by_cases hlt : k < n
    · have hk0 : (0 : Int) ≤ (k : Int) := by omega
      have hk1 : (k : Int) < (n : Int) := by omega
      obtain ⟨bb, off, ha, h1⟩ := HD.out (by omega)
      subst ha
      have cc := h1 k (by rw [← HN.out]; exact hlt)
      clear h1
      obtain ⟨x, hx⟩ : ∃ x, x = l.getD k default := ⟨_, rfl⟩
      rw [← hx] at cc
      have HT := Lib.hid (show l.take (k + 1) = l.take k ++ [x] by rw [hx]; exact take_succ_ent (by rw [← HN.out]; exact hlt))
      have c0 := keep hb.out cc.1.1.1
      have c1 := keep hb.out cc.1.1.2
      have c2 := keep hb.out cc.1.2
      have c3 := keep hb.out cc.2
      have HLEN := Lib.hid (show (fromE b (l.take k)).length ≤ 1000000 by
        have := fromE_len b (l.take k)
        rw [List.length_take] at this
        omega)
      clear hx cc
      by_cases hx : b ≤ x.off
      · have HF := Lib.hid (show fromE b (l.take (k + 1)) = fromE b (l.take k) ++ [x] by rw [HT.out]; simp [fromE, hx])
        go_wp2_with (at_builtin; go_must (refine wpList_append_own _ rfl _ _ 22 rfl w.heap.size 38 i0 _ 4 48 Try.underlying22 hi hz0 hz1 hz2 rfl (by decide) _ _ _ rfl (hown.out.alloc _) ⟨wr.heap.size, 0, none⟩ 1 1 (entCells x) rfl rfl ?_ (by intro v hv; simp [entCells] at hv; rcases hv with rfl | rfl | rfl | rfl <;> rfl) (by have := HLEN.out; unfold maxLen; omega) (by have := HLEN.out; omega) (by have := hb.out.size; simp; omega) ?_))
        · intro j v hv
          match j, hv with
          | 0, hv => simp [entCells] at hv; subst hv; simp [Addr.add]
          | 1, hv => simp [entCells] at hv; subst hv; simp [Addr.add]
          | 2, hv => simp [entCells] at hv; subst hv; simp [Addr.add]
          | 3, hv => simp [entCells] at hv; subst hv; simp [Addr.add]
        · intro v' w2 hown2 hgrow _
          have HO2 := Lib.hid (show OwnE w2 w.heap.size v' (fromE b (l.take (k + 1))) by
            rw [HF.out]
            show w2.ownsRow _ _ _ _ _ _
            simpa [List.flatMap_append] using hown2)
          have HB2 := Lib.hid ((hb.out.alloc hb.out.size (.cells #[.int .i64 x.off, .int .i64 x.id, .string x.key, .string x.body] 38)).grown hgrow (by have := hb.out.size; simp; omega) (fun j hj => (hown.out.lt j hj).1))
          clear hown2 hgrow c0 c1 c2 c3
          go_wp2_with fail
          go_roundg (n - (k + 1))
          case measure => omega
          case rel => exact ⟨k + 1, by omega, rfl, by go_num, HO2, HB2⟩
      · have HF := Lib.hid (show fromE b (l.take (k + 1)) = fromE b (l.take k) by rw [HT.out]; simp [fromE]; omega)
        go_wp2_with fail
        go_roundg (n - (k + 1))
        case measure => omega
        case rel =>
          refine ⟨k + 1, by omega, rfl, by go_num, ?_, hb⟩
          show OwnE _ _ _ (fromE b (l.take (k + 1)))
          rw [HF.out]
          exact hown.out
    · obtain rfl : k = n := by omega
      have hlt' : ¬ (k : Int) < (k : Int) := by omega
      have ho := hown.out
      rw [show l.take k = l by rw [HN.out]; exact List.take_length] at ho
      obtain ⟨a', cap', hv'⟩ := own_shape ho
      have HO := Lib.hid ho
      subst hv'
      clear ho
      go_wp2_with fail
      go_ret
      exact ⟨a', cap', rfl, HO.out, hb.out⟩
end Go.Proofs.Ytolgkadoplalnaa
