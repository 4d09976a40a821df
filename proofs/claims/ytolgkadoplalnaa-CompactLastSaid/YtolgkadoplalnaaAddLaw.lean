/-
  Plain law of a message more: what is added may be, is fetched, and leaves all else as it was. No program in sight.
-/
import Derived.Test.YtolgkadoplalnaaAddP
namespace Go.Proofs.Ytolgkadoplalnaa

theorem may_lt {t : Top} (h : t.may) {x : Ent} (hx : x ∈ t.ents) : x.off < t.next := by
  obtain ⟨i, hi, rfl⟩ := List.getElem_of_mem hx
  have := (h.2.1 i hi).2.2.1
  rwa [getD_at hi] at this

/-- What is added. -/
def addT (t : Top) (id : Int) (k b : ByteArray) : Top := ⟨t.base, t.next + 1, t.mark, t.ents ++ [⟨t.next, id, k, b⟩]⟩

theorem add_may {t : Top} {id : Int} {k b : ByteArray} (h : t.may) (h1 : 0 ≤ id ∧ id < 6291456 ∧ k.size ≤ 16 ∧ b.size ≤ 64) (h2 : t.next ≠ 1073741824) (h3 : t.ents.length ≠ 200) : (addT t id k b).may := by
  obtain ⟨⟨a1, a2, a3, a4, a5, a6, a7⟩, hg, hw⟩ := h
  have hlen : (t.ents ++ [(⟨t.next, id, k, b⟩ : Ent)]).length = t.ents.length + 1 := by simp
  have hpre : ∀ j, j < t.ents.length → (t.ents ++ [(⟨t.next, id, k, b⟩ : Ent)]).getD j default = t.ents.getD j default := fun j hj => by simp [List.getD, List.getElem?_append_left hj]
  have hlast : (t.ents ++ [(⟨t.next, id, k, b⟩ : Ent)]).getD t.ents.length default = ⟨t.next, id, k, b⟩ := by simp [List.getD]
  refine ⟨⟨by show 0 ≤ t.next + 1; omega, by show t.next + 1 ≤ _; omega, a3, by show t.base ≤ t.next + 1; omega, a5, by show t.mark ≤ t.next + 1; omega, by show (t.ents ++ _).length ≤ 200; rw [hlen]; omega⟩, fun i hi => ?_, ?_⟩
  · have hi' : i < t.ents.length + 1 := by rw [← hlen]; exact hi
    show Top.good ⟨t.base, t.next + 1, t.mark, t.ents ++ [⟨t.next, id, k, b⟩]⟩ i
    unfold Top.good
    simp only
    by_cases hil : i < t.ents.length
    · obtain ⟨g1, g2, g3, g4, g5⟩ := hg i hil
      rw [hpre i hil]
      refine ⟨g1, g2, by omega, fun h0 => ?_, fun hm j hj => ?_⟩
      · rw [hpre (i - 1) (by omega)]; exact g4 h0
      · rw [hpre j (by omega)]; exact g5 hm j hj
    · obtain rfl : i = t.ents.length := by omega
      rw [hlast]
      refine ⟨h1, a4, by show t.next < t.next + 1; omega, fun h0 => ?_, fun hm => ?_⟩
      · rw [hpre (t.ents.length - 1) (by omega)]
        exact (hg _ (by omega)).2.2.1
      · exfalso
        have hm' : t.next < t.mark := hm
        omega
  · show ((Top.whole ⟨t.base, t.next + 1, t.mark, t.ents ++ [⟨t.next, id, k, b⟩]⟩ (t.ents ++ [⟨t.next, id, k, b⟩]) : Nat) : Int) = t.next + 1 - max t.mark t.base
    have hw' : ((t.ents.countP fun x => decide (t.mark ≤ x.off) : Nat) : Int) = t.next - max t.mark t.base := hw
    have : Top.whole ⟨t.base, t.next + 1, t.mark, t.ents ++ [⟨t.next, id, k, b⟩]⟩ (t.ents ++ [⟨t.next, id, k, b⟩]) = (t.ents.countP fun x => decide (t.mark ≤ x.off)) + 1 := by
      unfold Top.whole
      rw [List.countP_append]
      simp [a6]
    rw [this]
    omega

theorem fetch_add_new {t : Top} {id : Int} {k b : ByteArray} (h : t.may) (hu : (addT t id k b).may) : fetchP (addT t id k b) t.next = (⟨t.next, id, k, b⟩, 0) := by
  have h0 : 0 ≤ t.next := h.1.1
  have h1 : t.base ≤ t.next := h.1.2.2.2.1
  have e : (addT t id k b).ents.find? (fun x => x.off == t.next) = some ⟨t.next, id, k, b⟩ := by
    show (t.ents ++ [(⟨t.next, id, k, b⟩ : Ent)]).find? _ = _
    rw [List.find?_append, List.find?_eq_none.2 (fun x hx => by have := may_lt h hx; simp; omega)]
    simp
  rw [fetchP, if_pos hu, if_neg (by omega), if_neg (by show ¬ t.next + 1 ≤ t.next; omega), if_neg (by show ¬ t.next < t.base; omega), e]
theorem fetch_add_old {t : Top} {id : Int} {k b : ByteArray} (h : t.may) (hu : (addT t id k b).may) {o : Int} (ho : o ≠ t.next) : fetchP (addT t id k b) o = fetchP t o := by
  have e : (addT t id k b).ents.find? (fun x => x.off == o) = t.ents.find? (fun x => x.off == o) := by
    show (t.ents ++ [(⟨t.next, id, k, b⟩ : Ent)]).find? _ = _
    rw [List.find?_append]
    have : ((⟨t.next, id, k, b⟩ : Ent).off == o) = false := by simp; omega
    simp [this]
  have e1 : (addT t id k b).next = t.next + 1 := rfl
  have e2 : (addT t id k b).base = t.base := rfl
  rw [fetchP, fetchP, if_pos hu, if_pos h, e, e1, e2]
  by_cases h1 : o < 0
  · rw [if_pos h1, if_pos h1]
  · rw [if_neg h1, if_neg h1]
    by_cases h2 : t.next ≤ o
    · rw [if_pos h2, if_pos (by omega)]
    · rw [if_neg h2, if_neg (by omega)]

/-- An answer of Add: refused, or done. -/
theorem add_cases {t u : Top} {id n e : Int} {k b : ByteArray} (h : addP t id k b = (u, n, e)) :
    (u = Top.zero ∧ n = 0 ∧ (e = 2 ∨ e = 3 ∨ e = 8 ∨ e = 9)) ∨ ((e = 0 ∧ n = t.next ∧ u = addT t id k b) ∧ (t.may ∧ u.may) ∧ (0 ≤ id ∧ id < 6291456 ∧ k.size ≤ 16 ∧ b.size ≤ 64) ∧ (t.next < 1073741824 ∧ t.ents.length < 200)) := by
  unfold addP at h
  by_cases hm : t.may
  · rw [if_pos hm] at h
    by_cases h1 : id < 0 ∨ 6291456 ≤ id
    · rw [if_pos h1] at h; cases h; exact Or.inl ⟨rfl, rfl, Or.inl rfl⟩
    · rw [if_neg h1] at h
      by_cases h2 : 16 < k.size ∨ 64 < b.size
      · rw [if_pos h2] at h; cases h; exact Or.inl ⟨rfl, rfl, Or.inr (Or.inl rfl)⟩
      · rw [if_neg h2] at h
        by_cases h3 : t.next = 1073741824 ∨ t.ents.length = 200
        · rw [if_pos h3] at h; cases h; exact Or.inl ⟨rfl, rfl, Or.inr (Or.inr (Or.inr rfl))⟩
        · rw [if_neg h3] at h
          cases h
          have a1 := hm.1.2.1
          have a2 := hm.1.2.2.2.2.2.2
          exact Or.inr ⟨⟨rfl, rfl, rfl⟩, ⟨hm, add_may hm (by omega) (by omega) (by omega)⟩, by omega, by omega, by omega⟩
  · rw [if_neg hm] at h; cases h; exact Or.inl ⟨rfl, rfl, Or.inr (Or.inr (Or.inl rfl))⟩
end Go.Proofs.Ytolgkadoplalnaa
