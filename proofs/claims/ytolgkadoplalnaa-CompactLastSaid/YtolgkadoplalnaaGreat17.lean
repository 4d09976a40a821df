/-
  The document's Great for topics. No condition but that the topic reads.
-/
import Derived.Test.YtolgkadoplalnaaProg
import Derived.Test.YtolgkadoplalnaaTopR
import Derived.Deep.LoopGhost
namespace Go.Proofs.Ytolgkadoplalnaa
open Go.RowKit

def GreatEnd17 (t : Top) (w : World) (e : Ending) (w' : World) : Prop := (∃ g, e = .returned (.bool g) ∧ (g = false → t.ents.length ≤ 1000)) ∧ Below w.heap.size w w'

set_option maxHeartbeats 2000000 in
set_option maxRecDepth 100000 in
theorem great17_any {v : Value} {t : Top} {w : World} (h : TopR w v t) (hk : ∀ x ∈ t.ents, x.key.size ≤ 140737488355328 ∧ x.body.size ≤ 140737488355328) :
    Calls Try.prog 16 #[v] w (GreatEnd17 t w) := by
  obtain ⟨a, cap, rfl, hs⟩ := h
  obtain ⟨⟨_, hcap⟩, ⟨hmax, _⟩, hd⟩ := hs.ents
  have HD := Lib.hid hd
  have HK := Lib.hid hk
  obtain ⟨base, hbase⟩ : ∃ base, base = t.base := ⟨_, rfl⟩
  obtain ⟨next, hnext⟩ : ∃ next, next = t.next := ⟨_, rfl⟩
  obtain ⟨mark, hmark⟩ : ∃ mark, mark = t.mark := ⟨_, rfl⟩
  obtain ⟨n, hn⟩ : ∃ n, n = t.ents.length := ⟨_, rfl⟩
  rw [← hbase, ← hnext, ← hmark, ← hn]
  rw [← hn] at HD hcap
  have HN := Lib.hid hn
  unfold maxLen at hmax
  have hn1 : (n : Int) ≤ 9223372036854775807 := by omega
  clear hbase hnext hmark hn hs hd hk
  go_enter Try.func16, Try.ntmps16
  go_wp2_with fail
  go_loopg [3, 4] n (fun g s i wr => ∃ k s' : Nat, k ≤ n ∧ g = n - k ∧ i = .int .i64 (k : Int) ∧ s = .int .i64 (s' : Int) ∧ s' ≤ 400000000000000 ∧ Hid (Below w.heap.size w wr) ∧ Hid (wr.cell? ⟨w.heap.size, 3, none⟩ = some (.slice a n cap)))
  case atStart => exact ⟨0, 0, Nat.zero_le _, rfl, rfl, rfl, by omega, (Below.refl _ _).alloc (Nat.le_refl _) _, by show World.cell? _ _ = _; go_simp⟩
  case round =>
    obtain ⟨k, s', hkn, rfl, rfl, rfl, hs', hb, hbox⟩ := hrel
    have t3 := hbox.out
    by_cases hlt : k < n
    · have hk0 : (0 : Int) ≤ (k : Int) := by omega
      have hk1 : (k : Int) < (n : Int) := by omega
      by_cases hsm : s' ≤ 100000
      · have hs1 : (s' : Int) ≤ 100000 := by omega
        obtain ⟨bb, off, ha, hcc⟩ := HD.out (by omega)
        subst ha
        have cc := hcc k (by rw [← HN.out]; exact hlt)
        clear hcc
        obtain ⟨x, hx⟩ : ∃ x, x = t.ents.getD k default := ⟨_, rfl⟩
        rw [← hx] at cc
        have hsz : x.key.size ≤ 140737488355328 ∧ x.body.size ≤ 140737488355328 := by
          have hkl : k < t.ents.length := by rw [← HN.out]; exact hlt
          have e : t.ents.getD k default = t.ents[k] := by simp [List.getD, hkl]
          rw [hx, e]
          exact HK.out _ (List.getElem_mem hkl)
        have c2 := keep hb.out cc.1.2
        have c3 := keep hb.out cc.2
        obtain ⟨K, hK⟩ : ∃ K, K = x.key.size := ⟨_, rfl⟩
        obtain ⟨L, hL⟩ : ∃ L, L = x.body.size := ⟨_, rfl⟩
        rw [← hK, ← hL] at hsz
        obtain ⟨hK1, hL1⟩ := hsz
        have HKK := hK.symm
        have HLL := hL.symm
        obtain ⟨kk, hkk⟩ : ∃ kk, kk = x.key := ⟨_, rfl⟩
        obtain ⟨ll, hll⟩ : ∃ ll, ll = x.body := ⟨_, rfl⟩
        rw [← hkk] at c2 HKK
        rw [← hll] at c3 HLL
        clear hK hL hkk hll cc hx
        have w1 : IntKind.i64.wrap (30 + (K : Int)) = 30 + (K : Int) := IntWalk.i64_in _ (by omega)
        have w2 : IntKind.i64.wrap (30 + (K : Int) + (L : Int)) = 30 + (K : Int) + (L : Int) := IntWalk.i64_in _ (by omega)
        have w3 : IntKind.i64.wrap ((s' : Int) + (30 + (K : Int) + (L : Int))) = (s' : Int) + (30 + (K : Int) + (L : Int)) := IntWalk.i64_in _ (by omega)
        have hb2 := hb.out
        go_wp2_with fail
        refine wp_region_class (fun w' => ((w'.cell? ⟨w.heap.size, 3, none⟩ = some (.slice (some ⟨bb, off, none⟩) n cap) ∧ w'.cell? ⟨bb, off + k * 4 + 2, none⟩ = some (.string kk)) ∧ w'.cell? ⟨bb, off + k * 4 + 3, none⟩ = some (.string ll)) ∧ Below w.heap.size w w') (by kernel_rfl) (by kernel_rfl) ⟨⟨⟨by simpa using t3, by simpa using c2⟩, by simpa using c3⟩, hb2.drew⟩ ?_
        repeat
          with_reducible refine wpQuiet_step (fun K hK => ?_)
          first
            | refine quiet_not (by rfl) (hK _ ?_)
            | refine quiet_any (by rfl) ?_
              apply Exists.intro
              refine ⟨fun wq hq => ?_, hK _ ?_⟩
              · obtain ⟨⟨⟨k0, k1⟩, k2⟩, kb⟩ := hq
                go_simp
                first
                  | done
                  | (with_reducible rfl)
                  | (fail)
          clear hK K
          simp only [Act.put, List.setIfInBounds_toArray, List.set_cons_zero, List.set_cons_succ]
        refine wpQuiet_nil ?_
        intro wq hq
        have hbq := Lib.hid hq.2
        have t3q := Lib.hid hq.1.1.1
        clear hq hb2 c2 c3 t3
        go_wp2_with fail
        go_roundg (n - (k + 1))
        case measure => omega
        case rel => exact ⟨k + 1, s' + (30 + K + L), by omega, rfl, by go_num, by go_num, by omega, hbq, t3q⟩
      · have hs1 : (100000 : Int) < (s' : Int) := by omega
        have hs2 : ¬ (s' : Int) ≤ 100000 := by omega
        go_wp2_with fail
        go_ret
        exact ⟨⟨true, rfl, fun h => by cases h⟩, hb.out⟩
    · obtain rfl : k = n := by omega
      have hlt' : ¬ (k : Int) < (k : Int) := by omega
      by_cases hs1 : (100000 : Int) < (s' : Int)
      · go_wp2_with fail
        go_ret
        exact ⟨⟨true, rfl, fun h => by cases h⟩, hb.out⟩
      · by_cases hn2 : (1000 : Int) < (k : Int)
        · go_wp2_with fail
          go_ret
          exact ⟨⟨true, rfl, fun h => by cases h⟩, hb.out⟩
        · go_wp2_with fail
          go_ret
          exact ⟨⟨_, rfl, fun _ => by rw [← HN.out]; omega⟩, hb.out⟩
end Go.Proofs.Ytolgkadoplalnaa
