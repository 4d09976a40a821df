/-
  Models of the call's own with one thing turned. No program in sight but its types.
-/
import Derived.Test.YtblgmjbajnkcdabMdlO
import Derived.Test.YtblgmjbajnkcdabMdlTwin
namespace Go.Proofs.Ytblgmjbajnkcdab
open Go.RowKit Go.Deep

/-- As OwnP, but the rows are not said to be apart. -/
def OwnQ (w : World) (B : Nat) (v : Value) (l : List Pl) : Prop :=
  ∃ pl : List (Value × Pl), pl.map (·.2) = l ∧ w.ownsRow B 84 3 v l.length (pl.flatMap plCells) ∧ ∀ p ∈ pl, OwnE w B p.1 p.2.all
def OwnN (w : World) (B : Nat) (v : Value) (m : Mdl) : Prop := ∃ ta tc, v = .agg #[ta, tc] ∧ OwnQ w B ta m.tops ∧ OwnC w B tc m.coms
theorem OwnP.weak {w : World} {B : Nat} {v : Value} {l : List Pl} (h : OwnP w B v l) : OwnQ w B v l := by
  obtain ⟨pl, h1, h2, h3, _⟩ := h
  exact ⟨pl, h1, h2, h3⟩
theorem OwnM.weak {w : World} {B : Nat} {v : Value} {m : Mdl} (h : OwnM w B v m) : OwnN w B v m := by
  obtain ⟨ta, tc, h1, h2, h3⟩ := h
  exact ⟨ta, tc, h1, h2.weak, h3⟩
theorem OwnQ.reads {w : World} {B : Nat} {v : Value} {l : List Pl} (h : OwnQ w B v l) : PlsR w v l := by
  obtain ⟨pl, rfl, h2, h3⟩ := h
  rw [List.length_map] at h2
  exact ⟨pl, rfl, sliceR_of_owns plCells_len h2, fun p hp => own_all (h3 p hp)⟩
theorem OwnN.reads {w : World} {B : Nat} {v : Value} {m : Mdl} (h : OwnN w B v m) : MdlR w v m := by
  obtain ⟨ta, tc, rfl, h2, h3⟩ := h
  exact ⟨ta, tc, rfl, h2.reads, h3.reads⟩
theorem OwnQ.keep {w w' : World} {B : Nat} {v : Value} {l : List Pl} (h : OwnQ w B v l) (hb : Below w.heap.size w w') : OwnQ w' B v l := by
  obtain ⟨pl, h1, h2, h3⟩ := h
  exact ⟨pl, h1, ownsRow_keep h2 hb, fun p hp => own_below (h3 p hp) hb⟩
theorem OwnQ.alloc {w : World} {B : Nat} {v : Value} {l : List Pl} (h : OwnQ w B v l) (o : Obj) : OwnQ (w.alloc o) B v l := h.keep ((Below.refl _ _).alloc (Nat.le_refl _) _)
theorem OwnQ.le {w : World} {B B' : Nat} {v : Value} {l : List Pl} (h : OwnQ w B v l) (hB : B' ≤ B) : OwnQ w B' v l := by
  obtain ⟨pl, h1, h2, h3⟩ := h
  exact ⟨pl, h1, ownsRow_le h2 hB, fun p hp => own_base (h3 p hp) hB⟩
theorem OwnN.keep {w w' : World} {B : Nat} {v : Value} {m : Mdl} (h : OwnN w B v m) (hb : Below w.heap.size w w') : OwnN w' B v m := by
  obtain ⟨ta, tc, h1, h2, h3⟩ := h
  exact ⟨ta, tc, h1, h2.keep hb, h3.keep hb⟩
theorem OwnN.le {w : World} {B B' : Nat} {v : Value} {m : Mdl} (h : OwnN w B v m) (hB : B' ≤ B) : OwnN w B' v m := by
  obtain ⟨ta, tc, h1, h2, h3⟩ := h
  exact ⟨ta, tc, h1, h2.le hB, OwnRows.le h3 hB⟩
theorem OwnQ.far {W : World} {B b o : Nat} {v u : Value} {l : List Pl} (h : OwnQ W B v l) (hb : b < B) : OwnQ (W.setCell ⟨b, o, none⟩ u) B v l := by
  obtain ⟨pl, h1, h2, h3⟩ := h
  exact ⟨pl, h1, ownsRow_setCell_other h2 (fun e => by have := (h2.lt _ e).1; simp at this; omega) u, fun p hp => own_set (h3 p hp) hb⟩
theorem OwnQ.blk {W : World} {B b o : Nat} {t : TypeId} {cs : List Value} {v u : Value} {l : List Pl} (h : OwnQ W B v l) (hb : Blk W b t cs) (h1t : 84 ≠ t) (h2t : 29 ≠ t) : OwnQ (W.setCell ⟨b, o, none⟩ u) B v l := by
  obtain ⟨pl, h1, h2, h3⟩ := h
  exact ⟨pl, h1, ownsRow_setCell_other h2 (row_blk h2 hb h1t) u, fun p hp => ownsRow_setCell_other (h3 p hp) (row_blk (h3 p hp) hb h2t) u⟩
theorem OwnN.blk {W : World} {B b o : Nat} {t : TypeId} {cs : List Value} {v u : Value} {m : Mdl} (h : OwnN W B v m) (hb : Blk W b t cs) (h1t : 84 ≠ t) (h2t : 29 ≠ t) (h3t : 43 ≠ t) (h4t : 3 ≠ t) : OwnN (W.setCell ⟨b, o, none⟩ u) B v m := by
  obtain ⟨ta, tc, rfl, h1, h2⟩ := h
  exact ⟨ta, tc, rfl, h1.blk hb h1t h2t, OwnC.blk h2 hb h3t h4t⟩
theorem OwnN.zero (w : World) (B : Nat) : OwnN w B (.agg #[.slice none 0 0, .slice none 0 0]) Mdl.zero := ⟨_, _, rfl, ⟨[], rfl, World.ownsRow_nil _ _ _ _, fun _ h => by cases h⟩, OwnRows.nil _ _ _ _⟩

theorem flat3_set (pl : List (Value × Pl)) (i j : Nat) (y : Value) (p : Value × Pl) (hi : i < pl.length) (hj : j < 3) (hp : plCells p = (plCells (pl[i])).set j y) :
    (pl.flatMap plCells).set (i * 3 + j) y = (pl.set i p).flatMap plCells := by
  induction pl generalizing i with
  | nil => simp at hi
  | cons z l ih =>
    cases i with
    | zero =>
      simp only [List.getElem_cons_zero] at hp
      simp only [List.flatMap_cons, List.set_cons_zero, Nat.zero_mul, Nat.zero_add, hp]
      rw [List.set_append_left _ _ (by rw [plCells_len]; exact hj)]
    | succ i =>
      simp only [List.getElem_cons_succ] at hp
      have := ih i (by simpa using hi) hp
      simp only [List.flatMap_cons, List.set_cons_succ, ← this]
      rw [List.set_append_right (h := by rw [plCells_len]; omega), plCells_len, show (i + 1) * 3 + j - 3 = i * 3 + j by omega]

/-- A number of place i. -/
theorem OwnP.put {W : World} {B g n cap i j : Nat} {y : Int} {l : List Pl} {p' : Pl} (h : OwnP W B (.slice (some ⟨g, 0, none⟩) n cap) l) (hi : i < l.length)
    (hp : (j = 1 ∧ p' = ⟨(l.getD i default).all, y, (l.getD i default).mark⟩) ∨ (j = 2 ∧ p' = ⟨(l.getD i default).all, (l.getD i default).base, y⟩)) :
    OwnQ (W.setCell ⟨g, i * 3 + j, none⟩ (.int .i64 y)) B (.slice (some ⟨g, 0, none⟩) n cap) (l.set i p') := by
  obtain ⟨pl, rfl, h2, h3, _⟩ := h
  rw [List.length_map] at h2 hi
  obtain rfl : n = pl.length := by
    rcases h2.2 with ⟨e, _⟩ | ⟨_, _, _, e, _⟩
    · cases e
    · cases e; rfl
  have hd : (pl.map (·.2)).getD i default = pl[i].2 := by simp [List.getD, hi]
  rw [hd] at hp
  have s1 := (h2.stored (i * 3 + j) (.int .i64 y)).1
  have hj : j < 3 := by omega
  have hpc : plCells (pl[i].1, p') = (plCells (pl[i])).set j (.int .i64 y) := by
    rcases hp with ⟨rfl, rfl⟩ | ⟨rfl, rfl⟩ <;> rfl
  have hpa : p'.all = (pl[i].2).all := by rcases hp with ⟨_, rfl⟩ | ⟨_, rfl⟩ <;> rfl
  rw [flat3_set pl i j _ (pl[i].1, p') hi hj hpc] at s1
  have hne : ∀ q : Value × Pl, OwnE W B q.1 q.2.all → OwnE (W.setCell ⟨g, i * 3 + j, none⟩ (.int .i64 y)) B q.1 q.2.all := fun q hq => row_far hq (fun b hb => heap_setCell_other _ _ _ _ hb) (rows_ne hq h2 (by decide) rfl)
  refine ⟨pl.set i (pl[i].1, p'), by simp, ?_, fun p hp => ?_⟩
  · rw [List.length_set, List.length_map]
    exact s1
  · rcases List.mem_or_eq_of_mem_set hp with hp | hp
    · exact hne p (h3 p hp)
    · subst hp
      have := hne (pl[i]) (h3 _ (List.getElem_mem hi))
      show OwnE _ B (pl[i]).1 p'.all
      rw [hpa]
      exact this

/-- All entries of place i: what is known of them, and a row in their place that was grown out of them. -/
theorem OwnP.grow {W : World} {B g n cap i : Nat} {l : List Pl} (h : OwnP W B (.slice (some ⟨g, 0, none⟩) n cap) l) (hi : i < l.length) :
    ∃ ea ecap, W.cell? ⟨g, i * 3, none⟩ = some (.slice ea (l.getD i default).all.length ecap) ∧ OwnE W B (.slice ea (l.getD i default).all.length ecap) (l.getD i default).all ∧
      (∀ k, (Value.slice ea (l.getD i default).all.length ecap).ownBlock = some k → k ≠ g) ∧
      ∀ (W5 : World) (a' : Option Addr) (c' : Nat) (x : Ent), W.grownBy W5 (Value.slice ea (l.getD i default).all.length ecap).ownBlock → OwnE W5 B (.slice a' ((l.getD i default).all.length + 1) c') ((l.getD i default).all ++ [x]) →
        OwnQ (W5.setCell ⟨g, i * 3, none⟩ (.slice a' ((l.getD i default).all.length + 1) c')) B (.slice (some ⟨g, 0, none⟩) n cap) (l.set i ⟨(l.getD i default).all ++ [x], (l.getD i default).base, (l.getD i default).mark⟩) := by
  obtain ⟨pl, rfl, h2, h3, h4⟩ := h
  rw [List.length_map] at h2 hi
  obtain rfl : n = pl.length := by
    rcases h2.2 with ⟨e, _⟩ | ⟨_, _, _, e, _⟩
    · cases e
    · cases e; rfl
  have hd : (pl.map (·.2)).getD i default = pl[i].2 := by simp [List.getD, hi]
  rw [hd]
  obtain ⟨ea, ecap, hu⟩ := own_shape (h3 _ (List.getElem_mem hi))
  have hi3 : i * 3 < (pl.flatMap plCells).length := by rw [h2.1]; omega
  have hcell : (pl.flatMap plCells)[i * 3]? = some pl[i].1 := by
    have := flat_get (k := 3) plCells_len pl i hi 0 (by omega)
    rw [Nat.add_zero] at this
    rw [this]
    rfl
  have hc := h2.cells (g := g) rfl (i * 3) _ hcell
  rw [show ((⟨g, 0, none⟩ : Addr).add (i * 3)) = ⟨g, i * 3, none⟩ by unfold Addr.add; split <;> simp_all] at hc
  have hown := h3 _ (List.getElem_mem hi)
  rw [hu] at hc hown
  have hng : ∀ k, (Value.slice ea (pl[i].2).all.length ecap).ownBlock = some k → k ≠ g := fun k hk e => by
    subst e
    exact rows_ne hown h2 (by decide) rfl hk
  refine ⟨ea, ecap, hc, hown, hng, fun W5 a' c' x hg ho => ?_⟩
  have h25 := ownsRow_grown' h2 hg (fun k hk hk2 => hng k hk (by simpa [Value.ownBlock] using hk2.symm))
  have s1 := (h25.stored (i * 3 + 0) (.slice a' ((pl[i].2).all.length + 1) c')).1
  rw [flat3_set pl i 0 _ (.slice a' ((pl[i].2).all.length + 1) c', ⟨(pl[i].2).all ++ [x], (pl[i].2).base, (pl[i].2).mark⟩) hi (by omega) rfl] at s1
  have hne : ∀ q : Value × Pl, OwnE W5 B q.1 q.2.all → OwnE (W5.setCell ⟨g, i * 3, none⟩ (.slice a' ((pl[i].2).all.length + 1) c')) B q.1 q.2.all := fun q hq => row_far hq (fun b hb => heap_setCell_other _ _ _ _ hb) (rows_ne hq h25 (by decide) rfl)
  refine ⟨pl.set i (.slice a' ((pl[i].2).all.length + 1) c', ⟨(pl[i].2).all ++ [x], (pl[i].2).base, (pl[i].2).mark⟩), by simp, ?_, fun p hp => ?_⟩
  · rw [List.length_set, List.length_map]
    exact s1
  · obtain ⟨k, hk, rfl⟩ := List.getElem_of_mem hp
    rw [List.length_set] at hk
    by_cases hki : k = i
    · subst hki
      rw [List.getElem_set_self]
      exact row_far ho (fun b hb => heap_setCell_other _ _ _ _ hb) (rows_ne ho h25 (by decide) rfl)
    · rw [List.getElem_set_ne (fun e => hki e.symm)]
      refine hne _ (ownsRow_grown' (h3 _ (List.getElem_mem hk)) hg (fun b hb hb2 => ?_))
      have hap := List.pairwise_iff_getElem.1 h4
      rw [← hu] at hb
      rcases Nat.lt_or_ge k i with hlt | hge
      · exact hap k i hk hi hlt b hb2 hb
      · exact hap i k hi hk (by omega) b hb hb2
theorem grownBy_from {w w5 : World} {o : Obj} {row : Option Nat} (h : (w.drew.alloc o).grownBy w5 row) : w.grownBy w5 row :=
  ⟨h.os, h.tape, h.output, Nat.le_trans (by simp) h.size, fun k hk hr => (h.block k (by simp; omega) hr).trans (Below.heap_alloc w.drew o k hk)⟩
theorem grownBy_alloc0 {w w5 : World} {o : Obj} {row : Option Nat} (h : (w.alloc o).grownBy w5 row) : w.grownBy w5 row :=
  ⟨h.os, h.tape, h.output, Nat.le_trans (by simp) h.size, fun k hk hr => (h.block k (by simp; omega) hr).trans (Below.heap_alloc w o k hk)⟩
def PutEndM (u : Mdl) (n x : Int) (w : World) (e : Ending) (w' : World) : Prop := ∃ ta tc, e = .returned (.tuple #[.agg #[ta, tc], .int .i64 n, .int .i64 x]) ∧ OwnN w' w.heap.size (.agg #[ta, tc]) u ∧ Below w.heap.size w w'
def DoEndM (u : Mdl) (x : Int) (w : World) (e : Ending) (w' : World) : Prop := ∃ ta tc, e = .returned (.tuple #[.agg #[ta, tc], .int .i64 x]) ∧ OwnN w' w.heap.size (.agg #[ta, tc]) u ∧ Below w.heap.size w w'
end Go.Proofs.Ytblgmjbajnkcdab
