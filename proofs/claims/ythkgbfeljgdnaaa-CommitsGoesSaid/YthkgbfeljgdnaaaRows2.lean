/-
  A slice of rows of numbers that a call itself made. No program in sight.
-/
import Derived.Test.YthkgbfeljgdnaaaRead
import Derived.Test.YthkgbfeljgdnaaaKit
import Derived.Laws.CopyOwn
namespace Go.Proofs.Ythkgbfeljgdnaaa
open Go.RowKit

theorem RowsR.shape {w : World} {v : Value} {m : List (List Int)} (h : RowsR w v m) : ∃ (a : Option Addr) (n cap : Nat), v = .slice a n cap := by
  obtain ⟨us, ⟨a, cap, hv, _⟩, _⟩ := h
  exact ⟨a, _, cap, hv⟩

theorem rows_apart {w : World} {b1 b2 : Nat} {e1 e2 : TypeId} {s1 s2 n1 n2 : Nat} {v1 v2 : Value} {xs1 xs2 : List Value} (h1 : w.ownsRow b1 e1 s1 v1 n1 xs1) (h2 : w.ownsRow b2 e2 s2 v2 n2 xs2) (he : e1 ≠ e2) :
    v1.ownBlock = none ∨ v1.ownBlock ≠ v2.ownBlock := by
  rcases h1.2 with ⟨rfl, _⟩ | ⟨g1, c1, cur1, rfl, _, hh1, _⟩
  · exact Or.inl rfl
  · rcases h2.2 with ⟨rfl, _⟩ | ⟨g2, c2, cur2, rfl, _, hh2, _⟩
    · exact Or.inr (by simp [Value.ownBlock])
    · refine Or.inr ?_
      simp only [Value.ownBlock, ne_eq, Option.some.injEq]
      intro hg
      rw [hg, hh2] at hh1
      simp at hh1
      exact he hh1.2.symm

theorem ownsRow_below {w w' : World} {B b : Nat} {e : TypeId} {s n : Nat} {v : Value} {xs : List Value} (h : w.ownsRow b e s v n xs) (hb : Below B w w') (hlt : ∀ k, v.ownBlock = some k → k < B) : w'.ownsRow b e s v n xs := by
  refine ⟨h.1, ?_⟩
  rcases h.2 with h0 | ⟨g, cap, cur, rfl, hg, hh, r⟩
  · exact Or.inl h0
  · exact Or.inr ⟨g, cap, cur, rfl, hg, by rw [hb.block g (hlt g rfl)]; exact hh, r⟩
theorem ownsRow_keep {w w' : World} {b : Nat} {e : TypeId} {s n : Nat} {v : Value} {xs : List Value} (h : w.ownsRow b e s v n xs) (hb : Below w.heap.size w w') : w'.ownsRow b e s v n xs :=
  ownsRow_below h hb (fun k hk => (h.lt k hk).2)

def rowVals (r : List Int) : List Value := r.map fun n => .int .i64 n
theorem rowVals_get {r : List Int} {i : Nat} (h : i < r.length) : (rowVals r)[i]? = some (.int .i64 (r.getD i 0)) := by
  simp [rowVals, List.getD, h]
theorem rowVals_flat (r : List Int) : rowVals r = r.flatMap intCell := by
  induction r with
  | nil => rfl
  | cons x r ih => rw [List.flatMap_cons, ← ih]; rfl

/-- The slice v is the call's own, and so are its rows; they read as m. te: the type of a row, ti: of a number. -/
def OwnRows (te ti : TypeId) (w : World) (base : Nat) (v : Value) (m : List (List Int)) : Prop :=
  ∃ us : List Value, w.ownsRow base te 1 v us.length us ∧ us.length = m.length ∧ (∀ i, i < m.length → w.ownsRow base ti 1 (us.getD i .nilIface) (m.getD i []).length (rowVals (m.getD i []))) ∧
    ∀ i j, i < m.length → j < m.length → i ≠ j → (us.getD i .nilIface).ownBlock = none ∨ (us.getD i .nilIface).ownBlock ≠ (us.getD j .nilIface).ownBlock

theorem flat_one (us : List Value) : us.flatMap oneCell = us := by
  induction us with
  | nil => rfl
  | cons x r ih => rw [List.flatMap_cons, ih]; rfl

theorem OwnRows.reads {te ti : TypeId} {w : World} {base : Nat} {v : Value} {m : List (List Int)} (h : OwnRows te ti w base v m) : RowsR w v m := by
  obtain ⟨us, h1, h2, h3, _⟩ := h
  refine ⟨us, sliceR_of_owns (cells := oneCell) (fun _ => rfl) (by rw [flat_one]; exact h1), h2, fun i hi => ?_⟩
  exact sliceR_of_owns (cells := intCell) (fun _ => rfl) (by rw [← rowVals_flat]; exact h3 i hi)

theorem OwnRows.keep {te ti : TypeId} {w w' : World} {base : Nat} {v : Value} {m : List (List Int)} (h : OwnRows te ti w base v m) (hb : Below w.heap.size w w') : OwnRows te ti w' base v m := by
  obtain ⟨us, h1, h2, h3, h4⟩ := h
  exact ⟨us, ownsRow_keep h1 hb, h2, fun i hi => ownsRow_keep (h3 i hi) hb, h4⟩

theorem ownsRow_le {w : World} {base base' size n : Nat} {e : TypeId} {v : Value} {xs : List Value} (h : w.ownsRow base e size v n xs) (hb : base' ≤ base) : w.ownsRow base' e size v n xs :=
  ⟨h.1, h.2.elim Or.inl (fun ⟨g, cap, cur, hv, hg, r⟩ => Or.inr ⟨g, cap, cur, hv, Nat.le_trans hb hg, r⟩)⟩
theorem OwnRows.le {te ti : TypeId} {w : World} {base base' : Nat} {v : Value} {m : List (List Int)} (h : OwnRows te ti w base v m) (hb : base' ≤ base) : OwnRows te ti w base' v m := by
  obtain ⟨us, h1, h2, h3, h4⟩ := h
  exact ⟨us, ownsRow_le h1 hb, h2, fun i hi => ownsRow_le (h3 i hi) hb, h4⟩
theorem OwnRows.drew {te ti : TypeId} {w : World} {base : Nat} {v : Value} {m : List (List Int)} (h : OwnRows te ti w base v m) : OwnRows te ti w.drew base v m := h

theorem OwnRows.nil (te ti : TypeId) (w : World) (base : Nat) : OwnRows te ti w base (.slice none 0 0) [] :=
  ⟨[], World.ownsRow_nil _ _ _ _, rfl, fun _ hi => absurd hi (Nat.not_lt_zero _), fun _ _ hi => absurd hi (Nat.not_lt_zero _)⟩

theorem getD_append_left {α : Type} {l m : List α} {d : α} {i : Nat} (h : i < l.length) : (l ++ m).getD i d = l.getD i d := by simp [List.getD, List.getElem?_append_left h]
theorem getD_append_new {α : Type} {l : List α} {x d : α} : (l ++ [x]).getD l.length d = x := by simp [List.getD]

/-- One row more: the row was there (made ahead of the append, in a block that no other row has); the append wrote the outer slice's own block alone. -/
theorem OwnRows.snoc {te ti : TypeId} {w w' : World} {base : Nat} {v v' x : Value} {m : List (List Int)} {r : List Int} {us : List Value} (hne : ti ≠ te) (hu : w.ownsRow base te 1 v us.length us) (hl : us.length = m.length)
    (hin : ∀ i, i < m.length → w.ownsRow base ti 1 (us.getD i .nilIface) (m.getD i []).length (rowVals (m.getD i [])))
    (hap : ∀ i j, i < m.length → j < m.length → i ≠ j → (us.getD i .nilIface).ownBlock = none ∨ (us.getD i .nilIface).ownBlock ≠ (us.getD j .nilIface).ownBlock)
    (hx : w.ownsRow base ti 1 x r.length (rowVals r)) (hnew : ∀ i, i < m.length → ∀ k, (us.getD i .nilIface).ownBlock = some k → x.ownBlock ≠ some k)
    (hv : w'.ownsRow base te 1 v' (us.length + 1) (us ++ [x])) (hg : w.grownBy w' v.ownBlock) : OwnRows te ti w' base v' (m ++ [r]) := by
  have new : ∀ i, i < m.length → (us.getD i .nilIface).ownBlock = none ∨ (us.getD i .nilIface).ownBlock ≠ x.ownBlock := fun i hi => by
    cases h : (us.getD i .nilIface).ownBlock with
    | none => exact Or.inl rfl
    | some k => exact Or.inr (fun e => hnew i hi k h e.symm)
  have new' : ∀ i, i < m.length → x.ownBlock = none ∨ x.ownBlock ≠ (us.getD i .nilIface).ownBlock := fun i hi => by
    cases h : x.ownBlock with
    | none => exact Or.inl rfl
    | some k => exact Or.inr (fun e => hnew i hi k e.symm h)
  refine ⟨us ++ [x], by simpa using hv, by simp [hl], fun i hi => ?_, fun i j hi hj hij => ?_⟩
  · by_cases h : i < m.length
    · rw [getD_append_left (by omega), getD_append_left h]
      exact (hin i h).kept hg (rows_apart (hin i h) hu hne)
    · have : i = m.length := by simp at hi; omega
      subst this
      rw [getD_append_new, ← hl, getD_append_new]
      exact hx.kept hg (rows_apart hx hu hne)
  · simp at hi hj
    by_cases h : i < m.length
    · rw [getD_append_left (by omega)]
      by_cases h2 : j < m.length
      · rw [getD_append_left (by omega)]
        exact hap i j h h2 hij
      · have : j = us.length := by omega
        rw [this, getD_append_new]
        exact new i h
    · have : i = us.length := by omega
      have hj' : j < m.length := by omega
      rw [this, getD_append_new, getD_append_left (by omega)]
      exact new' j hj'

theorem splice_all {α : Type} (L cs : List α) (h : cs.length = L.length) : splice L 0 cs = cs := by
  simp [splice, h]

end Go.Proofs.Ythkgbfeljgdnaaa
