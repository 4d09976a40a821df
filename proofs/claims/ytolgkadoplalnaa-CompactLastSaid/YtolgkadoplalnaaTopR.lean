/-
  How a topic reads: from the form's reading to numbers and entries. No program in sight.
-/
import Derived.Test.YtolgkadoplalnaaRead
import Derived.Test.YtolgkadoplalnaaKit
import Derived.Test.YtolgkadoplalnaaTopP
import Derived.Laws.CopyOwn
namespace Go.Proofs.Ytolgkadoplalnaa
open Go.RowKit Go.Deep Go.WideShapes Go.ChangeShapes

def entCells (x : Ent) : List Value := [.int .i64 x.off, .int .i64 x.id, .string x.key, .string x.body]
def entVal (x : Ent) : Value := .agg #[.int .i64 x.off, .int .i64 x.id, .string x.key, .string x.body]
def entOk (x : Ent) : Prop := (ok64 x.off ∧ ok64 x.id) ∧ x.key.size ≤ reachBytes ∧ x.body.size ≤ reachBytes
theorem entCells_len (x : Ent) : (entCells x).length = 4 := rfl

/-- The value v reads as the topic t. -/
def TopR (w : World) (v : Value) (t : Top) : Prop := ∃ a cap, v = .agg #[.int .i64 t.base, .int .i64 t.next, .int .i64 t.mark, .slice a t.ents.length cap] ∧ SliceR w (.slice a t.ents.length cap) 4 entCells t.ents
def topOk (t : Top) : Prop := ((ok64 t.base ∧ ok64 t.next) ∧ ok64 t.mark) ∧ ∀ x ∈ t.ents, entOk x

theorem TopR.below {w w' : World} {v : Value} {t : Top} (h : TopR w v t) (hb : Below w.heap.size w w') : TopR w' v t := by
  obtain ⟨a, cap, h1, h2⟩ := h
  exact ⟨a, cap, h1, h2.below entCells_len hb⟩

theorem Reads.ent {P : Program} {w : World} {t ti ts : TypeId} {cs : List Value} {f0 f1 f2 f3 : Field} (h : Reads P w t cs) (ht : P.underlying t = some (.struct #[f0, f1, f2, f3])) (hc : P.cellsOf t = 4)
    (hi : P.underlying ti = some (.int .i64)) (hci : P.cellsOf ti = 1) (hs : P.underlying ts = some .string) (hcs : P.cellsOf ts = 1)
    (e0 : f0.type = ti ∧ f0.offset = 0) (e1 : f1.type = ti ∧ f1.offset = 1) (e2 : f2.type = ts ∧ f2.offset = 2) (e3 : f3.type = ts ∧ f3.offset = 3) : ∃ x, cs = entCells x ∧ entOk x := by
  obtain ⟨hl, hf⟩ := h.struct ht
  rw [hc] at hl
  have r0 := hf 0 f0 rfl
  have r1 := hf 1 f1 rfl
  have r2 := hf 2 f2 rfl
  have r3 := hf 3 f3 rfl
  rw [e0.1, e0.2, hci] at r0
  rw [e1.1, e1.2, hci] at r1
  rw [e2.1, e2.2, hcs] at r2
  rw [e3.1, e3.2, hcs] at r3
  obtain ⟨a, ha, wa⟩ := r0.int hi
  obtain ⟨b, hb, wb⟩ := r1.int hi
  obtain ⟨s, hs', ws⟩ := r2.string hs
  obtain ⟨u, hu, wu⟩ := r3.string hs
  match cs, hl with
  | [c0, c1, c2, c3], _ =>
    simp at ha hb hs' hu
    subst ha hb hs' hu
    exact ⟨⟨a, b, s, u⟩, rfl, ⟨wa, wb⟩, ws, wu⟩

/-- The types that a topic needs. -/
structure TopTypes (P : Program) (t e te ti ts : TypeId) (f0 f1 f2 f3 g0 g1 g2 g3 : Field) : Prop where
  ht : P.underlying t = some (.struct #[f0, f1, f2, f3])
  hc : P.cellsOf t = 4
  he : P.underlying e = some (.slice te)
  hce : P.cellsOf e = 1
  hte : P.underlying te = some (.struct #[g0, g1, g2, g3])
  hcte : P.cellsOf te = 4
  hi : P.underlying ti = some (.int .i64)
  hci : P.cellsOf ti = 1
  hs : P.underlying ts = some .string
  hcs : P.cellsOf ts = 1
  e0 : f0.type = ti ∧ f0.offset = 0
  e1 : f1.type = ti ∧ f1.offset = 1
  e2 : f2.type = ti ∧ f2.offset = 2
  e3 : f3.type = e ∧ f3.offset = 3
  k0 : g0.type = ti ∧ g0.offset = 0
  k1 : g1.type = ti ∧ g1.offset = 1
  k2 : g2.type = ts ∧ g2.offset = 2
  k3 : g3.type = ts ∧ g3.offset = 3

theorem open_topic {P : Program} {w : World} {r : Reach} {base : Nat} {t e te ti ts : TypeId} {v : Value} {H : Type} {enc : TypeId × Value → H} {sp : Nat → Bool} {d : DataW H} {ps : List MemPlace} {f0 f1 f2 f3 g0 g1 g2 g3 : Field}
    (hv : Value.okWide P w r base t v) (h : DataW.Trod enc P w 0 sp true t v d ps) (hw : ∀ n ∈ d.weights P t, n ≤ reachBytes) (T : TopTypes P t e te ti ts f0 f1 f2 f3 g0 g1 g2 g3) :
    ∃ x : Top, TopR w v x ∧ topOk x ∧ x.ents.length * P.bytesOf te ≤ reachBytes := by
  obtain ⟨cs, rfl, _⟩ := okWide_struct T.ht hv
  have hr := reads_of_trod h hw
  have h2 : (Value.agg cs).cells = cs := rfl
  rw [h2] at hr
  obtain ⟨hl, hf⟩ := hr.struct T.ht
  rw [T.hc] at hl
  have r0 := hf 0 f0 rfl
  have r1 := hf 1 f1 rfl
  have r2 := hf 2 f2 rfl
  have r3 := hf 3 f3 rfl
  rw [T.e0.1, T.e0.2, T.hci] at r0
  rw [T.e1.1, T.e1.2, T.hci] at r1
  rw [T.e2.1, T.e2.2, T.hci] at r2
  rw [T.e3.1, T.e3.2, T.hce] at r3
  obtain ⟨a, ha, wa⟩ := r0.int T.hi
  obtain ⟨b, hb, wb⟩ := r1.int T.hi
  obtain ⟨c, hc', wc⟩ := r2.int T.hi
  obtain ⟨u, l, hu, hs, hsz, hok⟩ := r3.list 4 entCells entOk T.he T.hcte (by omega) (fun ds hd => hd.ent T.hte T.hcte T.hi T.hci T.hs T.hcs T.k0 T.k1 T.k2 T.k3)
  have hs' := hs
  obtain ⟨ad, cap, hua, _⟩ := hs'
  subst hua
  have hcs : cs = #[.int .i64 a, .int .i64 b, .int .i64 c, .slice ad l.length cap] := by
    obtain ⟨l'⟩ := cs
    simp only at hl ha hb hc' hu
    match l', hl with
    | [c0, c1, c2, c3], _ =>
      simp at ha hb hc' hu
      subst ha hb hc' hu
      rfl
  rw [hcs]
  exact ⟨⟨a, b, c, l⟩, ⟨ad, cap, rfl, hs⟩, ⟨⟨⟨wa, wb⟩, wc⟩, hok⟩, hsz⟩

/-- The cells of a topic's entries, as the walk spells them: base, offset, and each entry's four. -/
def EntsAt (w : World) (b off : Nat) (l : List Ent) : Prop :=
  ∀ i, i < l.length → ((w.cell? ⟨b, off + i * 4, none⟩ = some (.int .i64 (l.getD i default).off) ∧ w.cell? ⟨b, off + i * 4 + 1, none⟩ = some (.int .i64 (l.getD i default).id)) ∧
    w.cell? ⟨b, off + i * 4 + 2, none⟩ = some (.string (l.getD i default).key)) ∧ w.cell? ⟨b, off + i * 4 + 3, none⟩ = some (.string (l.getD i default).body)

theorem SliceR.ents {w : World} {a : Option Addr} {n cap : Nat} {l : List Ent} (h : SliceR w (.slice a n cap) 4 entCells l) :
    (n = l.length ∧ n ≤ cap) ∧ (cap ≤ maxLen ∧ (a = none → cap = 0)) ∧ (0 < n → ∃ b off, a = some ⟨b, off, none⟩ ∧ EntsAt w b off l) := by
  obtain ⟨a', cap', h1, h2, h3, h4, h5⟩ := h
  cases h1
  refine ⟨⟨rfl, h2⟩, ⟨h3, h4⟩, fun hl => ?_⟩
  obtain ⟨b, off, ha, hd⟩ := h5 hl
  refine ⟨b, off, ha, fun i hi => ?_⟩
  have e : l.getD i default = l[i] := by simp [List.getD, hi]
  rw [e]
  exact ⟨⟨⟨by simpa [entCells] using hd i hi 0 (by omega), by simpa [entCells, Nat.add_assoc] using hd i hi 1 (by omega)⟩, by simpa [entCells, Nat.add_assoc] using hd i hi 2 (by omega)⟩, by simpa [entCells, Nat.add_assoc] using hd i hi 3 (by omega)⟩

end Go.Proofs.Ytolgkadoplalnaa
