/-
  The document's copy of a topic. No condition but that the topic reads and is not very great.
-/
import Derived.Test.YtolgkadoplalnaaTwinT
import Derived.Test.YtolgkadoplalnaaAppAny
namespace Go.Proofs.Ytolgkadoplalnaa
open Go.RowKit

set_option maxHeartbeats 1000000 in
set_option maxRecDepth 100000 in
theorem refTwin17_any {v : Value} {t : Top} {w : World} (h : TopR w v t) (hl : t.ents.length ≤ 1000000) : Calls Try.prog 17 #[v] w (TwinEnd17 t w) := by
  obtain ⟨a, cap, rfl, hs⟩ := h
  obtain ⟨i0, hi, hz0, hz1, hz2⟩ := info_parts info_ent
  obtain ⟨⟨_, hcap⟩, ⟨_, hnone⟩, hd⟩ := hs.ents
  have HNONE := Lib.hid (show a = none → t.ents.length = 0 ∧ cap = 0 from fun e => ⟨by have := hnone e; omega, hnone e⟩)
  have HD := Lib.hid hd
  have HS := Lib.hid hs
  have HL := Lib.hid hl
  obtain ⟨base, hbase⟩ : ∃ base, base = t.base := ⟨_, rfl⟩
  obtain ⟨next, hnext⟩ : ∃ next, next = t.next := ⟨_, rfl⟩
  obtain ⟨mark, hmark⟩ : ∃ mark, mark = t.mark := ⟨_, rfl⟩
  obtain ⟨n, hn⟩ : ∃ n, n = t.ents.length := ⟨_, rfl⟩
  rw [← hbase, ← hnext, ← hmark, ← hn]
  rw [← hn] at HS HD HL HNONE
  have HBS := Lib.hid hbase
  have HNX := Lib.hid hnext
  have HMK := Lib.hid hmark
  have HN := Lib.hid hn
  clear hbase hnext hmark hn hs hl hnone hd hcap
  go_enter Try.func17, Try.ntmps17
  go_wp2_with (at_builtin; go_must (refine wpList_append_own_any _ rfl _ _ 22 rfl (w.heap.size + 3) 38 i0 _ 4 48 Try.underlying22 hi hz0 hz1 hz2 rfl (by decide) _ 0 [] rfl (World.ownsRow_nil _ _ _ _) a n cap (t.ents.flatMap entCells) rfl (by rw [flat_len, HN.out]) HNONE.out ?_ (flat_one4 _) (by have := HL.out; unfold maxLen; omega) (by have := HL.out; omega) (by simp) ?_))
  · intro ad had j v hv
    subst had
    have hn0 : 0 < n := by
      have := (List.getElem?_eq_some_iff.1 hv).1
      rw [flat_len, ← HN.out] at this
      omega
    obtain ⟨b, off, e, _⟩ := HD.out hn0
    cases e
    exact (HS.out.below entCells_len ((((Below.refl _ _).alloc (Nat.le_refl _) _).alloc (by simp) _).alloc (by simp; omega) _)).flat entCells_len (by omega) j v hv
  · intro v' w2 hown hgrow
    have hb := belowGrown hgrow
    have ho : w2.ownsRow (w.heap.size + 3) 38 4 v' n (t.ents.flatMap entCells) := by simpa using hown
    obtain ⟨a', cap', hv'⟩ : ∃ a' cap', v' = .slice a' n cap' := by
      rcases ho.2 with ⟨e, h0⟩ | ⟨g, cp, _, e, _⟩
      · exact ⟨none, 0, by rw [e, h0]⟩
      · exact ⟨_, _, e⟩
    subst hv'
    have HO := Lib.hid ho
    have HB := Lib.hid hb
    have b0 := keep hb (a := ⟨w.heap.size + 2, 0, none⟩) (v := .int .i64 base) (by go_simp)
    have b1 := keep hb (a := ⟨w.heap.size + 2, 1, none⟩) (v := .int .i64 next) (by go_simp)
    have b2 := keep hb (a := ⟨w.heap.size + 2, 2, none⟩) (v := .int .i64 mark) (by go_simp)
    have b3 := keep hb (a := ⟨w.heap.size + 2, 3, none⟩) (v := .slice none 0 0) (by go_simp)
    have z3 : w2.frozen? ⟨w.heap.size + 2, 3, none⟩ = false := by rw [hb.frozen (p := ⟨w.heap.size + 2, 3, none⟩) (by simp)]; go_simp
    have r0 := keep hb (a := ⟨w.heap.size + 1, 0, none⟩) (v := .int .i64 0) (by go_simp)
    have r1 := keep hb (a := ⟨w.heap.size + 1, 1, none⟩) (v := .int .i64 0) (by go_simp)
    have r2 := keep hb (a := ⟨w.heap.size + 1, 2, none⟩) (v := .int .i64 0) (by go_simp)
    have r3 := keep hb (a := ⟨w.heap.size + 1, 3, none⟩) (v := .slice none 0 0) (by go_simp)
    have q0 : w2.frozen? ⟨w.heap.size + 1, 0, none⟩ = false := by rw [hb.frozen (p := ⟨w.heap.size + 1, 0, none⟩) (by simp)]; go_simp
    have q1 : w2.frozen? ⟨w.heap.size + 1, 1, none⟩ = false := by rw [hb.frozen (p := ⟨w.heap.size + 1, 1, none⟩) (by simp)]; go_simp
    have q2 : w2.frozen? ⟨w.heap.size + 1, 2, none⟩ = false := by rw [hb.frozen (p := ⟨w.heap.size + 1, 2, none⟩) (by simp)]; go_simp
    have q3 : w2.frozen? ⟨w.heap.size + 1, 3, none⟩ = false := by rw [hb.frozen (p := ⟨w.heap.size + 1, 3, none⟩) (by simp)]; go_simp
    clear ho hb hown hgrow
    go_wp2_with fail
    refine bodyPost_ret (v := .agg #[.int .i64 base, .int .i64 next, .int .i64 mark, .slice a' n cap']) (by simp [results, Try.results17, go_sem, r0, r1, r2, r3]) rfl ?_
    refine ⟨a', cap', by rw [HBS.out, HNX.out, HMK.out, HN.out], ?_, ?_⟩
    · have h0 := HO.out
      rw [HN.out] at h0 ⊢
      have hlt : ∀ k, (Value.slice a' t.ents.length cap').ownBlock = some k → w.heap.size + 3 ≤ k := fun k hk => (h0.lt k hk).1
      have h1 : OwnE w2 w.heap.size (.slice a' t.ents.length cap') t.ents := ⟨h0.1, h0.2.elim Or.inl (fun ⟨g, cp, cur, hv, hg, r⟩ => Or.inr ⟨g, cp, cur, hv, by omega, r⟩)⟩
      have s1 : ∀ (W : World) (b o : Nat) (u : Value), b < w.heap.size + 3 → OwnE W w.heap.size (.slice a' t.ents.length cap') t.ents → OwnE (W.setCell ⟨b, o, none⟩ u) w.heap.size (.slice a' t.ents.length cap') t.ents := fun W b o u hb h =>
        ownsRow_setCell_other h (fun e => by have := hlt _ e; simp at this; omega) u
      exact s1 _ _ _ _ (by omega) (s1 _ _ _ _ (by omega) (s1 _ _ _ _ (by omega) (s1 _ _ _ _ (by omega) (s1 _ _ _ _ (by omega) h1))))
    · have h0 : Below w.heap.size w w2 := ((((Below.refl _ _).alloc (Nat.le_refl _) _).alloc (by simp) _).alloc (by simp; omega) _).trans (HB.out.mono (by simp; omega))
      exact ((((h0.setCell (p := ⟨w.heap.size + 2, 3, none⟩) (by show w.heap.size ≤ w.heap.size + 2; omega) _).setCell (p := ⟨w.heap.size + 1, 0, none⟩) (Nat.le_succ _) _).setCell (p := ⟨w.heap.size + 1, 1, none⟩) (Nat.le_succ _) _).setCell (p := ⟨w.heap.size + 1, 2, none⟩) (Nat.le_succ _) _).setCell (p := ⟨w.heap.size + 1, 3, none⟩) (Nat.le_succ _) _
end Go.Proofs.Ytolgkadoplalnaa
