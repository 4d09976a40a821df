/-
  The document's Same and topic.Same. No condition but that the topics read.
-/
import Derived.Test.YtolgkadoplalnaaSame17
namespace Go.Proofs.Ytolgkadoplalnaa
open Go.RowKit

def sameT (t t' : Top) : Bool := t.base == t'.base && (t.next == t'.next && (t.mark == t'.mark && sameE t.ents t'.ents))
theorem sameT_iff (t t' : Top) : sameT t t' = true ↔ t = t' := by
  obtain ⟨a, b, c, d⟩ := t
  obtain ⟨a', b', c', d'⟩ := t'
  simp [sameT, sameE_iff]

set_option maxRecDepth 100000 in
theorem refSameT_any {v v' : Value} {t t' : Top} {w : World} (h : TopR w v t) (h' : TopR w v' t') :
    Calls Try.prog 22 #[v, v'] w fun e w' => e = .returned (.bool (sameT t t')) ∧ Below w.heap.size w w' := by
  obtain ⟨a, cap, rfl, hs⟩ := h
  obtain ⟨a', cap', rfl, hs'⟩ := h'
  have hb0 : ∀ o o' : Obj, Below w.heap.size w ((w.alloc o).alloc o') := fun o o' => ((Below.refl _ _).alloc (Nat.le_refl _) o).alloc (by simp) o'
  have K := fun (o o' : Obj) => sameEnts_any (hs.below entCells_len (hb0 o o')) (hs'.below entCells_len (hb0 o o'))
  have HK := Lib.hid K
  have HB0 := Lib.hid hb0
  obtain ⟨z, hz⟩ : ∃ z, z = sameT t t' := ⟨_, rfl⟩
  obtain ⟨q, hq⟩ : ∃ q, q = sameE t.ents t'.ents := ⟨_, rfl⟩
  have hz2 : z = (t.base == t'.base && (t.next == t'.next && (t.mark == t'.mark && q))) := by rw [hz, hq]; rfl
  rw [← hz]
  rw [← hq] at HK
  have HZ := Lib.hid hz2
  obtain ⟨base, hbase⟩ : ∃ base, base = t.base := ⟨_, rfl⟩
  obtain ⟨next, hnext⟩ : ∃ next, next = t.next := ⟨_, rfl⟩
  obtain ⟨mark, hmark⟩ : ∃ mark, mark = t.mark := ⟨_, rfl⟩
  obtain ⟨base', hbase'⟩ : ∃ base', base' = t'.base := ⟨_, rfl⟩
  obtain ⟨next', hnext'⟩ : ∃ next', next' = t'.next := ⟨_, rfl⟩
  obtain ⟨mark', hmark'⟩ : ∃ mark', mark' = t'.mark := ⟨_, rfl⟩
  rw [← hbase, ← hnext, ← hmark, ← hbase', ← hnext', ← hmark'] at HZ ⊢
  clear hz hq hz2 hs hs' K hb0 hbase hnext hmark hbase' hnext' hmark'
  by_cases h1 : base = base'
  · by_cases h2 : next = next'
    · by_cases h3 : mark = mark'
      · subst h1 h2 h3
        have e1 : (base == base) = true := by simp
        have e2 : (next == next) = true := by simp
        have e3 : (mark == mark) = true := by simp
        go_enter Try.func22, Try.ntmps22
        go_wp2_with fail
        refine (HK.out _ _).mono ?_
        rintro e w2 ⟨rfl, hb⟩
        have HB2 := Lib.hid ((HB0.out _ _).trans (hb.mono (by simp; omega)))
        clear hb
        go_wp2_with fail
        go_ret
        refine ⟨?_, HB2.out⟩
        rw [HZ.out, e1, e2, e3]
        rfl
      · have e3 : (mark == mark') = false := by simpa using h3
        have e1 : (base == base') = true := by simpa using h1
        have e2 : (next == next') = true := by simpa using h2
        clear h1 h2 h3
        go_enter Try.func22, Try.ntmps22
        go_wp2_with fail
        go_ret
        refine ⟨?_, HB0.out _ _⟩
        rw [HZ.out, e1, e2, e3]
        rfl
    · have e1 : (base == base') = true := by simpa using h1
      have e2 : (next == next') = false := by simpa using h2
      clear h1 h2
      go_enter Try.func22, Try.ntmps22
      go_wp2_with fail
      go_ret
      refine ⟨?_, HB0.out _ _⟩
      rw [HZ.out, e1, e2]
      rfl
  · have e1 : (base == base') = false := by simpa using h1
    clear h1
    go_enter Try.func22, Try.ntmps22
    go_wp2_with fail
    go_ret
    refine ⟨?_, HB0.out _ _⟩
    rw [HZ.out, e1]
    rfl

set_option maxRecDepth 100000 in
theorem topSame_any {v v' : Value} {t t' : Top} {w : World} (h : TopR w v t) (h' : TopR w v' t') :
    Calls Try.prog 29 #[v, v'] w fun e w' => e = .returned (.bool (sameT t t')) ∧ Below w.heap.size w w' := by
  obtain ⟨a, cap, rfl, hs⟩ := h
  obtain ⟨a', cap', rfl, hs'⟩ := h'
  have hb0 : ∀ o o' : Obj, Below w.heap.size w ((w.alloc o).alloc o') := fun o o' => ((Below.refl _ _).alloc (Nat.le_refl _) o).alloc (by simp) o'
  have K := fun (o o' : Obj) => equalEnts_any (hs.below entCells_len (hb0 o o')) (hs'.below entCells_len (hb0 o o'))
  have HK := Lib.hid K
  have HB0 := Lib.hid hb0
  obtain ⟨z, hz⟩ : ∃ z, z = sameT t t' := ⟨_, rfl⟩
  obtain ⟨q, hq⟩ : ∃ q, q = sameE t.ents t'.ents := ⟨_, rfl⟩
  have hz2 : z = (t.base == t'.base && (t.next == t'.next && (t.mark == t'.mark && q))) := by rw [hz, hq]; rfl
  rw [← hz]
  rw [← hq] at HK
  have HZ := Lib.hid hz2
  obtain ⟨base, hbase⟩ : ∃ base, base = t.base := ⟨_, rfl⟩
  obtain ⟨next, hnext⟩ : ∃ next, next = t.next := ⟨_, rfl⟩
  obtain ⟨mark, hmark⟩ : ∃ mark, mark = t.mark := ⟨_, rfl⟩
  obtain ⟨base', hbase'⟩ : ∃ base', base' = t'.base := ⟨_, rfl⟩
  obtain ⟨next', hnext'⟩ : ∃ next', next' = t'.next := ⟨_, rfl⟩
  obtain ⟨mark', hmark'⟩ : ∃ mark', mark' = t'.mark := ⟨_, rfl⟩
  rw [← hbase, ← hnext, ← hmark, ← hbase', ← hnext', ← hmark'] at HZ ⊢
  clear hz hq hz2 hs hs' K hb0 hbase hnext hmark hbase' hnext' hmark'
  by_cases h1 : base = base'
  · by_cases h2 : next = next'
    · by_cases h3 : mark = mark'
      · subst h1 h2 h3
        have e1 : (base == base) = true := by simp
        have e2 : (next == next) = true := by simp
        have e3 : (mark == mark) = true := by simp
        go_enter Try.func29, Try.ntmps29
        go_wp2_with fail
        refine (HK.out _ _).mono ?_
        rintro e w2 ⟨rfl, hb⟩
        have HB2 := Lib.hid ((HB0.out _ _).trans (hb.mono (by simp; omega)))
        clear hb
        go_wp2_with fail
        go_ret
        refine ⟨?_, HB2.out⟩
        rw [HZ.out, e1, e2, e3]
        rfl
      · have e3 : (mark == mark') = false := by simpa using h3
        have e1 : (base == base') = true := by simpa using h1
        have e2 : (next == next') = true := by simpa using h2
        clear h1 h2 h3
        go_enter Try.func29, Try.ntmps29
        go_wp2_with fail
        go_ret
        refine ⟨?_, HB0.out _ _⟩
        rw [HZ.out, e1, e2, e3]
        rfl
    · have e1 : (base == base') = true := by simpa using h1
      have e2 : (next == next') = false := by simpa using h2
      clear h1 h2
      go_enter Try.func29, Try.ntmps29
      go_wp2_with fail
      go_ret
      refine ⟨?_, HB0.out _ _⟩
      rw [HZ.out, e1, e2]
      rfl
  · have e1 : (base == base') = false := by simpa using h1
    clear h1
    go_enter Try.func29, Try.ntmps29
    go_wp2_with fail
    go_ret
    refine ⟨?_, HB0.out _ _⟩
    rw [HZ.out, e1]
    rfl

end Go.Proofs.Ytolgkadoplalnaa
