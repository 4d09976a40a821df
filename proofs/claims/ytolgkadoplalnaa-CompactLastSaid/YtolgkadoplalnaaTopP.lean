/-
  Plain mathematics of a topic: entries that rise, what a topic may be, told twice (the program's way and the document's), what is fetched. No program in sight. No condition.
-/
namespace Go.Proofs.Ytolgkadoplalnaa

structure Ent where
  off : Int
  id : Int
  key : ByteArray
  body : ByteArray
instance : Inhabited Ent := ⟨⟨0, 0, ByteArray.empty, ByteArray.empty⟩⟩

structure Top where
  base : Int
  next : Int
  mark : Int
  ents : List Ent

namespace Top

/-- One entry by itself. -/
def okEnt (x : Ent) : Prop := 0 ≤ x.id ∧ x.id < 6291456 ∧ x.key.size ≤ 16 ∧ x.body.size ≤ 64
instance (x : Ent) : Decidable (okEnt x) := by unfold okEnt; infer_instance

/-- The numbers at the head. -/
def head (t : Top) : Prop := 0 ≤ t.next ∧ t.next ≤ 1073741824 ∧ 0 ≤ t.base ∧ t.base ≤ t.next ∧ 0 ≤ t.mark ∧ t.mark ≤ t.next ∧ t.ents.length ≤ 200
instance (t : Top) : Decidable (head t) := by unfold head; infer_instance

/-- The document's look at entry i. -/
def good (t : Top) (i : Nat) : Prop :=
  okEnt (t.ents.getD i default) ∧ t.base ≤ (t.ents.getD i default).off ∧ (t.ents.getD i default).off < t.next ∧
    (0 < i → (t.ents.getD (i - 1) default).off < (t.ents.getD i default).off) ∧
    ((t.ents.getD i default).off < t.mark → ∀ k, k < i → (t.ents.getD k default).key ≠ (t.ents.getD i default).key)

/-- How many entries from Mark on. -/
def whole (t : Top) (l : List Ent) : Nat := l.countP fun x => decide (t.mark ≤ x.off)

/-- May a topic be? -/
def may (t : Top) : Prop := head t ∧ (∀ i, i < t.ents.length → good t i) ∧ (whole t t.ents : Int) = t.next - max t.mark t.base

/-- The program's look: last: the offset before; seen: the keys below Mark. -/
def chk (t : Top) : Int → List ByteArray → List Ent → Prop
  | last, _, [] => max (last + 1) t.mark = t.next
  | last, seen, x :: l =>
    (okEnt x ∧ last < x.off ∧ x.off < t.next ∧ x.off ≤ max (last + 1) t.mark ∧ (x.off < t.mark → x.key ∉ seen)) ∧
      chk t x.off (if x.off < t.mark then x.key :: seen else seen) l

/-- Entries that rise above last, below next, the keys below Mark all different and none seen. -/
def rest (t : Top) : Int → List ByteArray → List Ent → Prop
  | _, _, [] => True
  | last, seen, x :: l =>
    (okEnt x ∧ last < x.off ∧ x.off < t.next ∧ (x.off < t.mark → x.key ∉ seen)) ∧ rest t x.off (if x.off < t.mark then x.key :: seen else seen) l

theorem rest_count (t : Top) : ∀ (l : List Ent) (last : Int) (seen : List ByteArray), rest t last seen l → last < t.next → (whole t l : Int) ≤ t.next - 1 - last
  | [], last, _, _, h => by simp [whole]; omega
  | x :: l, last, seen, ⟨⟨_, h1, h2, _⟩, hr⟩, h => by
    have := rest_count t l x.off _ hr h2
    unfold whole at *
    rw [List.countP_cons]
    split <;> omega

theorem chk_iff (t : Top) : ∀ (l : List Ent) (last : Int) (seen : List ByteArray), max (last + 1) t.mark ≤ t.next →
    (chk t last seen l ↔ rest t last seen l ∧ (whole t l : Int) = t.next - max (last + 1) t.mark)
  | [], last, seen, h => by simp [chk, rest, whole]; omega
  | x :: l, last, seen, h => by
    unfold chk rest
    have hw : (whole t (x :: l) : Int) = (whole t l : Int) + if t.mark ≤ x.off then 1 else 0 := by
      unfold whole
      rw [List.countP_cons]
      by_cases c : t.mark ≤ x.off <;> simp [c]
    constructor
    · rintro ⟨⟨h1, h2, h3, h4, h5⟩, hc⟩
      have ih := (chk_iff t l x.off _ (by omega)).1 hc
      refine ⟨⟨⟨h1, h2, h3, h5⟩, ih.1⟩, ?_⟩
      rw [hw, ih.2]
      split <;> omega
    · rintro ⟨⟨⟨h1, h2, h3, h5⟩, hr⟩, hcount⟩
      rw [hw] at hcount
      have hb := rest_count t l x.off _ hr h3
      have h4 : x.off ≤ max (last + 1) t.mark := by
        split at hcount <;> omega
      refine ⟨⟨h1, h2, h3, h4, h5⟩, (chk_iff t l x.off _ (by omega)).2 ⟨hr, ?_⟩⟩
      split at hcount <;> omega

theorem getD_mid {pre l : List Ent} {x : Ent} : (pre ++ x :: l).getD pre.length default = x := by simp [List.getD]
theorem getD_pre {pre l : List Ent} {k : Nat} (h : k < pre.length) : (pre ++ l).getD k default = pre.getD k default := by simp [List.getD, List.getElem?_append_left h]
theorem getD_mem {pre : List Ent} {k : Nat} (h : k < pre.length) : pre.getD k default ∈ pre := by
  have : pre.getD k default = pre[k] := by simp [List.getD, h]
  rw [this]; exact List.getElem_mem h

theorem rest_iff (t : Top) : ∀ (l pre : List Ent) (last : Int) (seen : List ByteArray), t.ents = pre ++ l → (pre = [] → last = t.base - 1) →
    (0 < pre.length → (pre.getD (pre.length - 1) default).off = last) → (∀ y ∈ pre, y.off ≤ last) → t.base - 1 ≤ last →
    (∀ k, k ∈ seen ↔ ∃ y ∈ pre, y.off < t.mark ∧ y.key = k) → (rest t last seen l ↔ ∀ i, pre.length ≤ i → i < t.ents.length → good t i)
  | [], pre, last, seen, he, _, _, _, _, _ => by
    simp only [rest, true_iff]
    intro i h1 h2
    rw [he] at h2
    simp at h2
    omega
  | x :: l, pre, last, seen, he, h0, hl, hle, hb, hs => by
    have hx : t.ents.getD pre.length default = x := by rw [he]; exact getD_mid
    have hlen : pre.length < t.ents.length := by rw [he]; simp
    have ih := rest_iff t l (pre ++ [x]) x.off (if x.off < t.mark then x.key :: seen else seen) (by rw [he]; simp) (by simp)
      (by intro _; simp) 
    have hgood : (okEnt x ∧ last < x.off ∧ x.off < t.next ∧ (x.off < t.mark → x.key ∉ seen)) ↔ good t pre.length := by
      unfold good
      rw [hx]
      constructor
      · rintro ⟨h1, h2, h3, h4⟩
        refine ⟨h1, by omega, h3, ?_, ?_⟩
        · intro hp
          rw [he, getD_pre (by omega), hl hp]
          exact h2
        · intro hm k hk
          rw [he, getD_pre hk]
          intro hkey
          exact h4 hm ((hs _).2 ⟨_, getD_mem hk, by have := hle _ (getD_mem hk); omega, hkey⟩)
      · rintro ⟨h1, h2, h3, h4, h5⟩
        refine ⟨h1, ?_, h3, ?_⟩
        · by_cases hp : 0 < pre.length
          · have := h4 hp
            rw [he, getD_pre (by omega), hl hp] at this
            exact this
          · have : pre = [] := by cases pre with
              | nil => rfl
              | cons _ _ => simp at hp
            have := h0 this
            omega
        · intro hm hmem
          obtain ⟨y, hy, _, hkey⟩ := (hs _).1 hmem
          obtain ⟨k, hk, hyk⟩ := List.getElem_of_mem hy
          have := h5 hm k hk
          rw [he, getD_pre hk] at this
          apply this
          rw [← hkey, ← hyk]
          simp [List.getD, hk]
    unfold rest
    rw [hgood]
    constructor
    · rintro ⟨hg, hr⟩
      have hgx := hgood.2 hg
      have ih' := ih (by
        intro y hy
        rw [List.mem_append] at hy
        rcases hy with hy | hy
        · have := hle y hy; omega
        · simp at hy; subst hy; omega) (by omega) (by
        intro k
        by_cases hm : x.off < t.mark
        · simp only [hm, if_true, List.mem_cons, hs, List.mem_append, List.not_mem_nil, or_false]
          constructor
          · rintro (rfl | ⟨y, hy, h⟩)
            · exact ⟨x, Or.inr rfl, hm, rfl⟩
            · exact ⟨y, Or.inl hy, h⟩
          · rintro ⟨y, hy | rfl, h⟩
            · exact Or.inr ⟨y, hy, h⟩
            · exact Or.inl h.2.symm
        · simp only [hm, if_false, hs, List.mem_append, List.mem_cons, List.not_mem_nil, or_false]
          constructor
          · rintro ⟨y, hy, h⟩; exact ⟨y, Or.inl hy, h⟩
          · rintro ⟨y, hy | rfl, h⟩
            · exact ⟨y, hy, h⟩
            · exact absurd h.1 hm)
      intro i h1 h2
      by_cases hi : i = pre.length
      · subst hi; exact hg
      · exact ih'.1 hr i (by simp; omega) h2
    · intro hall
      have hg := hall pre.length (Nat.le_refl _) hlen
      have hgx := hgood.2 hg
      have ih' := ih (by
        intro y hy
        rw [List.mem_append] at hy
        rcases hy with hy | hy
        · have := hle y hy; omega
        · simp at hy; subst hy; omega) (by omega) (by
        intro k
        by_cases hm : x.off < t.mark
        · simp only [hm, if_true, List.mem_cons, hs, List.mem_append, List.not_mem_nil, or_false]
          constructor
          · rintro (rfl | ⟨y, hy, h⟩)
            · exact ⟨x, Or.inr rfl, hm, rfl⟩
            · exact ⟨y, Or.inl hy, h⟩
          · rintro ⟨y, hy | rfl, h⟩
            · exact Or.inr ⟨y, hy, h⟩
            · exact Or.inl h.2.symm
        · simp only [hm, if_false, hs, List.mem_append, List.mem_cons, List.not_mem_nil, or_false]
          constructor
          · rintro ⟨y, hy, h⟩; exact ⟨y, Or.inl hy, h⟩
          · rintro ⟨y, hy | rfl, h⟩
            · exact ⟨y, hy, h⟩
            · exact absurd h.1 hm)
      exact ⟨hg, ih'.2 (fun i h1 h2 => hall i (by simp at h1; omega) h2)⟩

/-- THE TWO LOOKS ARE ONE. -/
theorem may_iff (t : Top) : may t ↔ head t ∧ chk t (t.base - 1) [] t.ents := by
  unfold may
  constructor
  · rintro ⟨h, hg, hw⟩
    refine ⟨h, ?_⟩
    have hh := h
    obtain ⟨h1, h2, h3, h4, h5, h6, _⟩ := hh
    have hr := (rest_iff t t.ents [] (t.base - 1) [] rfl (fun _ => rfl) (by simp) (by simp) (by omega) (by simp)).2 (fun i _ hi => hg i hi)
    exact (chk_iff t t.ents (t.base - 1) [] (by omega)).2 ⟨hr, by omega⟩
  · rintro ⟨h, hc⟩
    have hh := h
    obtain ⟨h1, h2, h3, h4, h5, h6, _⟩ := hh
    have := (chk_iff t t.ents (t.base - 1) [] (by omega)).1 hc
    refine ⟨h, fun i hi => ?_, by omega⟩
    exact (rest_iff t t.ents [] (t.base - 1) [] rfl (fun _ => rfl) (by simp) (by simp) (by omega) (by simp)).1 this.1 i (Nat.zero_le _) hi

end Top
end Go.Proofs.Ytolgkadoplalnaa
