/-
  topic.Twin. No condition but that the topic reads and is not very great.
-/
import Derived.Test.YtolgkadoplalnaaTwin17
import Derived.Laws.Rows
import Derived.OneCell
namespace Go.Proofs.Ytolgkadoplalnaa
open Go.RowKit

set_option maxHeartbeats 1000000 in
set_option maxRecDepth 100000 in
theorem topTwin_any {v : Value} {t : Top} {w : World} (h : TopR w v t) (hl : t.ents.length ≤ 1000000) : Calls Try.prog 38 #[v] w (TwinEnd17 t w) := by
  obtain ⟨a, cap, rfl, hs⟩ := h
  have HS := Lib.hid hs
  have HL := Lib.hid hl
  obtain ⟨base, hbase⟩ : ∃ base, base = t.base := ⟨_, rfl⟩
  obtain ⟨next, hnext⟩ : ∃ next, next = t.next := ⟨_, rfl⟩
  obtain ⟨mark, hmark⟩ : ∃ mark, mark = t.mark := ⟨_, rfl⟩
  obtain ⟨n, hn⟩ : ∃ n, n = t.ents.length := ⟨_, rfl⟩
  rw [← hbase, ← hnext, ← hmark, ← hn]
  rw [← hn] at HS
  have HBS := Lib.hid hbase
  have HNX := Lib.hid hnext
  have HMK := Lib.hid hmark
  have HN := Lib.hid hn
  clear hbase hnext hmark hn hs hl
  go_enter Try.func38, Try.ntmps38
  go_wp2_with fail
  refine (clone_any (HS.out.below entCells_len (((Below.refl _ _).alloc (Nat.le_refl _) _).alloc (by simp) _)) HL.out).mono ?_
  rintro e w2 ⟨a', cap', rfl, ho, hb⟩
  rw [← HN.out] at ho
  have ek : t.ents.length = n := HN.out.symm
  rw [ek]
  clear ek
  have HO := Lib.hid ho
  have HB := Lib.hid hb
  have b0 := keep hb (a := ⟨w.heap.size, 0, none⟩) (v := .int .i64 base) (by go_simp)
  have b1 := keep hb (a := ⟨w.heap.size, 1, none⟩) (v := .int .i64 next) (by go_simp)
  have b2 := keep hb (a := ⟨w.heap.size, 2, none⟩) (v := .int .i64 mark) (by go_simp)
  have b3 := keep hb (a := ⟨w.heap.size, 3, none⟩) (v := .slice a n cap) (by go_simp)
  have z3 : w2.frozen? ⟨w.heap.size, 3, none⟩ = false := by rw [hb.frozen (p := ⟨w.heap.size, 3, none⟩) (by simp; omega)]; go_simp
  have r0 := keep hb (a := ⟨w.heap.size + 1, 0, none⟩) (v := .int .i64 0) (by go_simp)
  have r1 := keep hb (a := ⟨w.heap.size + 1, 1, none⟩) (v := .int .i64 0) (by go_simp)
  have r2 := keep hb (a := ⟨w.heap.size + 1, 2, none⟩) (v := .int .i64 0) (by go_simp)
  have r3 := keep hb (a := ⟨w.heap.size + 1, 3, none⟩) (v := .slice none 0 0) (by go_simp)
  have q0 : w2.frozen? ⟨w.heap.size + 1, 0, none⟩ = false := by rw [hb.frozen (p := ⟨w.heap.size + 1, 0, none⟩) (by simp)]; go_simp
  have q1 : w2.frozen? ⟨w.heap.size + 1, 1, none⟩ = false := by rw [hb.frozen (p := ⟨w.heap.size + 1, 1, none⟩) (by simp)]; go_simp
  have q2 : w2.frozen? ⟨w.heap.size + 1, 2, none⟩ = false := by rw [hb.frozen (p := ⟨w.heap.size + 1, 2, none⟩) (by simp)]; go_simp
  have q3 : w2.frozen? ⟨w.heap.size + 1, 3, none⟩ = false := by rw [hb.frozen (p := ⟨w.heap.size + 1, 3, none⟩) (by simp)]; go_simp
  clear ho hb
  go_wp2_with fail
  refine bodyPost_ret (v := .agg #[.int .i64 base, .int .i64 next, .int .i64 mark, .slice a' n cap']) (by simp [results, Try.results38, go_sem, r0, r1, r2, r3]) rfl ?_
  refine ⟨a', cap', by rw [HBS.out, HNX.out, HMK.out, HN.out], ?_, ?_⟩
  · have h0 := HO.out
    rw [HN.out] at h0 ⊢
    have hlt : ∀ k, (Value.slice a' t.ents.length cap').ownBlock = some k → w.heap.size + 2 ≤ k := fun k hk => by
      have := (h0.lt k hk).1
      simp at this
      omega
    have h1 : OwnE w2 w.heap.size (.slice a' t.ents.length cap') t.ents := ⟨h0.1, h0.2.elim Or.inl (fun ⟨g, cp, cur, hv, hg, r⟩ => Or.inr ⟨g, cp, cur, hv, by simp at hg; omega, r⟩)⟩
    have s1 : ∀ (W : World) (b o : Nat) (u : Value), b < w.heap.size + 2 → OwnE W w.heap.size (.slice a' t.ents.length cap') t.ents → OwnE (W.setCell ⟨b, o, none⟩ u) w.heap.size (.slice a' t.ents.length cap') t.ents := fun W b o u hb h =>
      ownsRow_setCell_other h (fun e => by have := hlt _ e; simp at this; omega) u
    exact s1 _ _ _ _ (by omega) (s1 _ _ _ _ (by omega) (s1 _ _ _ _ (by omega) (s1 _ _ _ _ (by omega) (s1 _ _ _ _ (by omega) h1))))
  · have h0 : Below w.heap.size w w2 := (((Below.refl _ _).alloc (Nat.le_refl _) _).alloc (by simp) _).trans (HB.out.mono (by simp; omega))
    exact ((((h0.setCell (p := ⟨w.heap.size, 3, none⟩) (Nat.le_refl _) _).setCell (p := ⟨w.heap.size + 1, 0, none⟩) (Nat.le_succ _) _).setCell (p := ⟨w.heap.size + 1, 1, none⟩) (Nat.le_succ _) _).setCell (p := ⟨w.heap.size + 1, 2, none⟩) (Nat.le_succ _) _).setCell (p := ⟨w.heap.size + 1, 3, none⟩) (Nat.le_succ _) _
end Go.Proofs.Ytolgkadoplalnaa
