/-
  Models that a call itself made. No program in sight but its types.
-/
import Derived.Test.YtblgmjbajnkcdabMdlR
import Derived.Test.YtblgmjbajnkcdabBunS
namespace Go.Proofs.Ytblgmjbajnkcdab
open Go.RowKit Go.Deep

def apartP (p q : Value × Pl) : Prop := ∀ k, p.1.ownBlock = some k → q.1.ownBlock ≠ some k
/-- The slice v is the call's own, and so are its topics' entries, each row apart from the others; they read as l. -/
def OwnP (w : World) (B : Nat) (v : Value) (l : List Pl) : Prop :=
  ∃ pl : List (Value × Pl), pl.map (·.2) = l ∧ w.ownsRow B 84 3 v l.length (pl.flatMap plCells) ∧ (∀ p ∈ pl, OwnE w B p.1 p.2.all) ∧ pl.Pairwise apartP
def OwnM (w : World) (B : Nat) (v : Value) (m : Mdl) : Prop := ∃ ta tc, v = .agg #[ta, tc] ∧ OwnP w B ta m.tops ∧ OwnC w B tc m.coms

theorem own_all {w : World} {B : Nat} {u : Value} {p : Pl} (h : OwnE w B u p.all) : AllR w u p := by
  obtain ⟨a, cap, rfl⟩ := own_shape h
  exact ⟨a, cap, rfl, h.reads⟩
theorem OwnP.reads {w : World} {B : Nat} {v : Value} {l : List Pl} (h : OwnP w B v l) : PlsR w v l := by
  obtain ⟨pl, rfl, h2, h3, _⟩ := h
  rw [List.length_map] at h2
  exact ⟨pl, rfl, sliceR_of_owns plCells_len h2, fun p hp => own_all (h3 p hp)⟩
theorem OwnM.reads {w : World} {B : Nat} {v : Value} {m : Mdl} (h : OwnM w B v m) : MdlR w v m := by
  obtain ⟨ta, tc, rfl, h2, h3⟩ := h
  exact ⟨ta, tc, rfl, h2.reads, h3.reads⟩
theorem OwnP.keep {w w' : World} {B : Nat} {v : Value} {l : List Pl} (h : OwnP w B v l) (hb : Below w.heap.size w w') : OwnP w' B v l := by
  obtain ⟨pl, h1, h2, h3, h4⟩ := h
  exact ⟨pl, h1, ownsRow_keep h2 hb, fun p hp => own_below (h3 p hp) hb, h4⟩
theorem OwnP.le {w : World} {B B' : Nat} {v : Value} {l : List Pl} (h : OwnP w B v l) (hB : B' ≤ B) : OwnP w B' v l := by
  obtain ⟨pl, h1, h2, h3, h4⟩ := h
  exact ⟨pl, h1, ownsRow_le h2 hB, fun p hp => own_base (h3 p hp) hB, h4⟩
theorem OwnM.keep {w w' : World} {B : Nat} {v : Value} {m : Mdl} (h : OwnM w B v m) (hb : Below w.heap.size w w') : OwnM w' B v m := by
  obtain ⟨ta, tc, h1, h2, h3⟩ := h
  exact ⟨ta, tc, h1, h2.keep hb, h3.keep hb⟩
theorem OwnM.le {w : World} {B B' : Nat} {v : Value} {m : Mdl} (h : OwnM w B v m) (hB : B' ≤ B) : OwnM w B' v m := by
  obtain ⟨ta, tc, h1, h2, h3⟩ := h
  exact ⟨ta, tc, h1, h2.le hB, h3.le hB⟩
theorem OwnP.nil (w : World) (B : Nat) : OwnP w B (.slice none 0 0) [] := ⟨[], rfl, World.ownsRow_nil _ _ _ _, (fun _ h => by cases h), List.Pairwise.nil⟩
theorem OwnM.zero (w : World) (B : Nat) : OwnM w B (.agg #[.slice none 0 0, .slice none 0 0]) Mdl.zero := ⟨_, _, rfl, OwnP.nil _ _, OwnRows.nil _ _ _ _⟩
theorem OwnP.alloc {w : World} {B : Nat} {v : Value} {l : List Pl} (h : OwnP w B v l) (o : Obj) : OwnP (w.alloc o) B v l := h.keep ((Below.refl _ _).alloc (Nat.le_refl _) _)
/-- Stores into a block that is none of these. -/
theorem OwnP.far {W : World} {B b o : Nat} {v u : Value} {l : List Pl} (h : OwnP W B v l) (hb : b < B) : OwnP (W.setCell ⟨b, o, none⟩ u) B v l := by
  obtain ⟨pl, h1, h2, h3, h4⟩ := h
  exact ⟨pl, h1, ownsRow_setCell_other h2 (fun e => by have := (h2.lt _ e).1; simp at this; omega) u, fun p hp => own_set (h3 p hp) hb, h4⟩
/-- Stores into a box of another type. -/
theorem OwnP.blk {W : World} {B b o : Nat} {t : TypeId} {cs : List Value} {v u : Value} {l : List Pl} (h : OwnP W B v l) (hb : Blk W b t cs) (h1t : 84 ≠ t) (h2t : 29 ≠ t) : OwnP (W.setCell ⟨b, o, none⟩ u) B v l := by
  obtain ⟨pl, h1, h2, h3, h4⟩ := h
  exact ⟨pl, h1, ownsRow_setCell_other h2 (row_blk h2 hb h1t) u, fun p hp => ownsRow_setCell_other (h3 p hp) (row_blk (h3 p hp) hb h2t) u, h4⟩
theorem OwnM.blk {W : World} {B b o : Nat} {t : TypeId} {cs : List Value} {v u : Value} {m : Mdl} (h : OwnM W B v m) (hb : Blk W b t cs) (h1t : 84 ≠ t) (h2t : 29 ≠ t) (h3t : 43 ≠ t) (h4t : 3 ≠ t) : OwnM (W.setCell ⟨b, o, none⟩ u) B v m := by
  obtain ⟨ta, tc, rfl, h1, h2⟩ := h
  exact ⟨ta, tc, rfl, h1.blk hb h1t h2t, OwnC.blk h2 hb h3t h4t⟩
/-- One more. B2: the blocks of the new row lie from there on, those of the others below. -/
theorem OwnP.snoc2 {w w' : World} {B B2 n : Nat} {v v' u : Value} {l : List Pl} {t : Pl} {pl : List (Value × Pl)} (h1 : pl.map (·.2) = l) (h2 : w.ownsRow B 84 3 v n (pl.flatMap plCells)) (h3 : ∀ p ∈ pl, OwnE w B p.1 p.2.all) (h4 : pl.Pairwise apartP) (h5 : ∀ p ∈ pl, ∀ k, p.1.ownBlock = some k → k < B2)
    (hu : OwnE w B u t.all) (hu2 : ∀ k, u.ownBlock = some k → B2 ≤ k) (hg : w.grownBy w' v.ownBlock) (hv : w'.ownsRow B 84 3 v' (n + 1) (pl.flatMap plCells ++ plCells (u, t))) (hn : n = l.length) : OwnP w' B v' (l ++ [t]) := by
  have hne : ∀ q : Value × Pl, OwnE w B q.1 q.2.all → OwnE w' B q.1 q.2.all := fun q hq => ownsRow_grown' hq hg (fun k hk => rows_ne hq h2 (by decide) hk)
  refine ⟨pl ++ [(u, t)], by simp [h1], ?_, fun p hp => ?_, ?_⟩
  · rw [List.length_append, ← hn]
    simpa [List.flatMap_append] using hv
  · rcases List.mem_append.1 hp with hp | hp
    · exact hne p (h3 p hp)
    · rw [List.mem_singleton.1 hp]
      exact hne (u, t) hu
  · rw [List.pairwise_append]
    refine ⟨h4, List.pairwise_singleton _ _, fun p hp q hq => ?_⟩
    rw [List.mem_singleton.1 hq]
    intro k hk hk2
    have a1 := h5 p hp k hk
    have a2 := hu2 k hk2
    omega
/-- The cells of place i. -/
theorem OwnP.at_ {W : World} {B i n cap : Nat} {a : Option Addr} {l : List Pl} (h : OwnP W B (.slice a n cap) l) (hi : i < l.length) : ∃ g, a = some ⟨g, 0, none⟩ ∧ (B ≤ g ∧ g < W.heap.size) ∧ (n = l.length ∧ n ≤ cap ∧ cap ≤ maxLen) ∧ PlAt W g (i * 3) (l.getD i default) ∧ ∀ o, W.frozen? ⟨g, o, none⟩ = false := by
  obtain ⟨a', cap', hv, hc, hm, _, hd⟩ := h.reads.shape
  cases hv
  obtain ⟨b, off, rfl, hd2⟩ := hd (by omega)
  have hat := hd2 i hi
  clear hd hd2
  obtain ⟨pl, rfl, h2, h3, _⟩ := h
  rcases id h2.2 with ⟨e, h0⟩ | ⟨g, cp, cur, e, hB, hh, _⟩
  · rw [List.length_map] at hi h0; omega
  · cases e
    rw [Nat.zero_add] at hat
    rw [List.length_map] at h2
    exact ⟨b, rfl, ⟨hB, (Array.getElem?_eq_some_iff.1 hh).1⟩, ⟨rfl, hc, hm⟩, hat, fun o => by rw [List.length_map] at *; exact h2.frozenAt o⟩
/-- The cells of a plain topic that was just laid down. -/
theorem news_pl (u : Value) (x : Pl) {W : World} {g : Nat} {t : TypeId} (hg : g = W.heap.size) : ∀ j y, (plCells (u, x))[j]? = some y → (W.alloc (.cells #[u, .int .i64 x.base, .int .i64 x.mark] t)).cell? ((⟨g, 0, none⟩ : Addr).add j) = some y := by
  intro j y hy
  have hB := Blk.new (w := W) (t := t) (cs := plCells (u, x)) hg
  have h := hB.cell j
  rw [show ((⟨g, 0, none⟩ : Addr).add j) = ⟨g, j, none⟩ by unfold Addr.add; split <;> simp_all]
  rw [← hy]
  exact h
theorem plCells_one (a : Option Addr) (n c : Nat) (x : Pl) : ∀ v ∈ plCells (.slice a n c, x), v.oneCell' = true := by
  intro v hv
  simp [plCells] at hv
  rcases hv with rfl | rfl | rfl <;> rfl
theorem info_pl : (Try.prog.info? 84).map (fun i => (i.zero, i.size, i.bytes)) = some (some (.agg #[.slice none 0 0, .int .i64 0, .int .i64 0]), 3, 40) := by kernel_rfl
/-- A model that a call returns. -/
def MdlEnd (m : Mdl) (w : World) (e : Ending) (w' : World) : Prop := ∃ ta tc, e = .returned (.agg #[ta, tc]) ∧ OwnM w' w.heap.size (.agg #[ta, tc]) m ∧ Below w.heap.size w w'
end Go.Proofs.Ytblgmjbajnkcdab
