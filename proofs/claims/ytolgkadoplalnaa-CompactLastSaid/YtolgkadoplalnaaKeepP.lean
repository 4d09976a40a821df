/-
  Plain law of what is kept: of entries that rise, those from an offset on are those behind the first such one. No program in sight.
-/
import Derived.Test.YtolgkadoplalnaaIdx18
import Derived.Test.YtolgkadoplalnaaFrom18
namespace Go.Proofs.Ytolgkadoplalnaa

def rises (l : List Ent) : Prop := ∀ i, i + 1 < l.length → (l.getD i default).off < (l.getD (i + 1) default).off
theorem rises_lt {l : List Ent} (h : rises l) {j : Nat} : ∀ {k : Nat}, j < k → k < l.length → (l.getD j default).off < (l.getD k default).off
  | 0, hj, _ => absurd hj (Nat.not_lt_zero _)
  | k + 1, hj, hk => by
    by_cases hjk : j = k
    · rw [hjk]; exact h k hk
    · have h1 := rises_lt h (j := j) (k := k) (by omega) (by omega)
      have h2 := h k hk
      omega
theorem may_rises {t : Top} (h : t.may) : rises t.ents := fun i hi => by
  have := (h.2.1 (i + 1) hi).2.2.2.1 (by omega)
  simpa using this

theorem fromE_append (b : Int) (l m : List Ent) : fromE b (l ++ m) = fromE b l ++ fromE b m := List.filter_append ..
theorem fromE_none {b : Int} {l : List Ent} (h : ∀ x ∈ l, x.off < b) : fromE b l = [] := by
  refine List.filter_eq_nil_iff.2 fun x hx => ?_
  have := h x hx
  simp; omega
theorem fromE_all {b : Int} {l : List Ent} (h : ∀ x ∈ l, b ≤ x.off) : fromE b l = l := List.filter_eq_self.2 fun x hx => by simpa using h x hx

theorem getD_at {l : List Ent} {j : Nat} (h : j < l.length) : l.getD j default = l[j] := by simp [List.getD, h]

theorem drop_from {l : List Ent} {b i : Int} (hr : rises l) (h : FirstAt l b i) : l.drop (if i < 0 then l.length else i.toNat) = fromE b l := by
  rcases h with ⟨rfl, hall⟩ | ⟨k, hk, rfl, hlo, hhi⟩
  · rw [if_pos (by omega), List.drop_length, fromE_none]
    intro x hx
    obtain ⟨j, hj, rfl⟩ := List.getElem_of_mem hx
    rw [← getD_at hj]; exact hall j hj
  · rw [if_neg (by omega), Int.toNat_natCast]
    conv => rhs; rw [← List.take_append_drop k l]
    rw [fromE_append, fromE_none, fromE_all, List.nil_append]
    · intro x hx
      obtain ⟨j, hj, rfl⟩ := List.getElem_of_mem hx
      rw [List.getElem_drop]
      have hj' : k + j < l.length := by simp at hj; omega
      rw [← getD_at hj']
      by_cases h0 : j = 0
      · subst h0; exact hhi
      · have := rises_lt hr (j := k) (k := k + j) (by omega) hj'
        omega
    · intro x hx
      obtain ⟨j, hj, rfl⟩ := List.getElem_of_mem hx
      rw [List.getElem_take]
      have hj' : j < k := by simp at hj; omega
      rw [← getD_at (by omega)]
      exact hlo j hj'
end Go.Proofs.Ytolgkadoplalnaa
