/-
  Plain: a message more, what stands at an offset; how such answers are returned. No program in sight.
-/
import Derived.Test.YtolgkadoplalnaaTrimP
namespace Go.Proofs.Ytolgkadoplalnaa
open Go.RowKit

def addP (t : Top) (id : Int) (k b : ByteArray) : Top × Int × Int :=
  if t.may then
    (if id < 0 ∨ 6291456 ≤ id then (Top.zero, 0, 2) else if 16 < k.size ∨ 64 < b.size then (Top.zero, 0, 3) else if t.next = 1073741824 ∨ t.ents.length = 200 then (Top.zero, 0, 9)
      else (⟨t.base, t.next + 1, t.mark, t.ents ++ [⟨t.next, id, k, b⟩]⟩, t.next, 0))
  else (Top.zero, 0, 8)
def fetchP (t : Top) (o : Int) : Ent × Int :=
  if t.may then
    (if o < 0 then (default, 2) else if t.next ≤ o then (default, 170) else if o < t.base then (default, 171) else match t.ents.find? fun x => x.off == o with
      | some x => (x, 0)
      | none => (default, 172))
  else (default, 8)

/-- A topic, new memory, and two numbers. -/
def TopEnd2 (u : Top) (x y : Int) (w : World) (e : Ending) (w' : World) : Prop :=
  ∃ a cap, e = .returned (.tuple #[.agg #[.int .i64 u.base, .int .i64 u.next, .int .i64 u.mark, .slice a u.ents.length cap], .int .i64 x, .int .i64 y]) ∧
    OwnE w' w.heap.size (.slice a u.ents.length cap) u.ents ∧ Below w.heap.size w w'
theorem topEnd2_zero {w w' : World} {e : Ending} (x y : Int) (h : e = .returned (.tuple #[.agg #[.int .i64 0, .int .i64 0, .int .i64 0, .slice none 0 0], .int .i64 x, .int .i64 y])) (hb : Below w.heap.size w w') : TopEnd2 Top.zero x y w e w' :=
  ⟨none, 0, h, World.ownsRow_nil _ _ _ _, hb⟩
/-- An entry and a number. -/
def EntEnd (x : Ent) (n : Int) (w : World) (e : Ending) (w' : World) : Prop :=
  e = .returned (.tuple #[.agg #[.int .i64 x.off, .int .i64 x.id, .string x.key, .string x.body], .int .i64 n]) ∧ Below w.heap.size w w'

theorem own_ne {W : World} {B b : Nat} {v : Value} {l : List Ent} (h : OwnE W B v l) (hb : b < B) : v.ownBlock ≠ some b := fun e => by have := (h.lt _ e).1; omega
theorem own_blk_ne {W : World} {B g : Nat} {v : Value} {l : List Ent} {t : TypeId} {cs : List Value} (h : OwnE W B v l) (hg : Blk W g t cs) (hne : 38 ≠ t) : v.ownBlock ≠ some g := by
  rcases h.2 with ⟨rfl, _⟩ | ⟨g', cap', cur, rfl, _, hh, _⟩
  · simp [Value.ownBlock]
  · intro he
    have : g' = g := by simpa [Value.ownBlock] using he
    subst this
    unfold Blk at hg
    rw [hg] at hh
    injection hh with hh
    injection hh with _ ht
    exact hne ht.symm
theorem own_set' {W : World} {B b o : Nat} {v u : Value} {l : List Ent} (h : OwnE W B v l) (hb : v.ownBlock ≠ some b) : OwnE (W.setCell ⟨b, o, none⟩ u) B v l :=
  ownsRow_setCell_other h hb u
theorem below_grown {a W w' : World} {B : Nat} {v : Value} {l : List Ent} (h : Below a.heap.size a W) (hg : W.grownBy w' v.ownBlock) (ho : OwnE W B v l) (hB : a.heap.size ≤ B) : Below a.heap.size a w' :=
  h.grown hg h.size (fun k hk => Nat.le_trans hB (ho.lt k hk).1)
/-- The cells of an entry that was just laid down. -/
theorem news_ent (x : Ent) {W : World} {g : Nat} {t : TypeId} (hg : g = W.heap.size) : ∀ j u, (entCells x)[j]? = some u → (W.alloc (.cells #[.int .i64 x.off, .int .i64 x.id, .string x.key, .string x.body] t)).cell? ((⟨g, 0, none⟩ : Addr).add j) = some u := by
  intro j u hu
  have hB := Blk.new (w := W) (t := t) (cs := entCells x) hg
  have h := hB.cell j
  rw [show ((⟨g, 0, none⟩ : Addr).add j) = ⟨g, j, none⟩ by unfold Addr.add; split <;> simp_all]
  rw [← hu]
  exact h
theorem find_at {l : List Ent} (h : rises l) {i : Nat} (hi : i < l.length) {o : Int} (ho : (l.getD i default).off = o) : l.find? (fun x => x.off == o) = some (l.getD i default) := by
  rw [List.find?_eq_some_iff_getElem]
  refine ⟨by simpa using ho, i, hi, (getD_at hi).symm, fun j hj => ?_⟩
  have := rises_lt h hj hi
  rw [getD_at (by omega)] at this
  simp
  omega
theorem find_none {l : List Ent} {o : Int} (h : ∀ i, i < l.length → (l.getD i default).off ≠ o) : l.find? (fun x => x.off == o) = none := by
  rw [List.find?_eq_none]
  intro x hx
  obtain ⟨i, hi, rfl⟩ := List.getElem_of_mem hx
  have := h i hi
  rw [getD_at hi] at this
  simpa using this
end Go.Proofs.Ytolgkadoplalnaa
