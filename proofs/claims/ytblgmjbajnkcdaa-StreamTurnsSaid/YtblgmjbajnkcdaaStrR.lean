/-
  How a group's topics read: from the form's reading to lists. No program in sight but its types.
-/
import Derived.Test.YtblgmjbajnkcdaaBunA
import Derived.Test.YtblgmjbajnkcdaaBunC
import Derived.Test.YtblgmjbajnkcdaaBunD
import Derived.Test.YtblgmjbajnkcdaaBunJ
namespace Go.Proofs.Ytblgmjbajnkcdaa
open Go.RowKit Go.Deep Go.WideShapes Go.ChangeShapes

theorem getD_lt {α : Type} {l : List α} {i : Nat} {d : α} (h : i < l.length) : l.getD i d = l[i] := by simp [List.getD, h]

structure Str where
  tops : List Top
  coms : List (List Int)
instance : Inhabited Top := ⟨Top.zero⟩

def topCells (p : Value × Top) : List Value := [.int .i64 p.2.base, .int .i64 p.2.next, .int .i64 p.2.mark, p.1]
theorem topCells_len (p : Value × Top) : (topCells p).length = 4 := rfl
/-- The slice value u reads as t's entries. -/
def EntR (w : World) (u : Value) (t : Top) : Prop := ∃ a cap, u = .slice a t.ents.length cap ∧ SliceR w u 4 entCells t.ents
/-- The slice v reads as these topics. -/
def TopsR (w : World) (v : Value) (l : List Top) : Prop := ∃ pl : List (Value × Top), pl.map (·.2) = l ∧ SliceR w v 4 topCells pl ∧ ∀ p ∈ pl, EntR w p.1 p.2
def StrR (w : World) (v : Value) (s : Str) : Prop := ∃ ta tc, v = .agg #[ta, tc] ∧ TopsR w ta s.tops ∧ RowsR w tc s.coms

theorem EntR.below {w w' : World} {u : Value} {t : Top} (h : EntR w u t) (hb : Below w.heap.size w w') : EntR w' u t := by
  obtain ⟨a, cap, h1, h2⟩ := h
  exact ⟨a, cap, h1, h2.below entCells_len hb⟩
theorem TopsR.below {w w' : World} {v : Value} {l : List Top} (h : TopsR w v l) (hb : Below w.heap.size w w') : TopsR w' v l := by
  obtain ⟨pl, h1, h2, h3⟩ := h
  exact ⟨pl, h1, h2.below topCells_len hb, fun p hp => (h3 p hp).below hb⟩
theorem StrR.below {w w' : World} {v : Value} {s : Str} (h : StrR w v s) (hb : Below w.heap.size w w') : StrR w' v s := by
  obtain ⟨ta, tc, h1, h2, h3⟩ := h
  exact ⟨ta, tc, h1, h2.below hb, h3.below hb⟩
theorem topR_of {w : World} {u : Value} {t : Top} (h : EntR w u t) : TopR w (.agg #[.int .i64 t.base, .int .i64 t.next, .int .i64 t.mark, u]) t := by
  obtain ⟨a, cap, rfl, h2⟩ := h
  exact ⟨a, cap, rfl, h2⟩

/-- A topic among topics, as the walk spells it. -/
def TopAt (w : World) (b o : Nat) (t : Top) : Prop := ∃ ea ecap, (((w.cell? ⟨b, o, none⟩ = some (.int .i64 t.base) ∧ w.cell? ⟨b, o + 1, none⟩ = some (.int .i64 t.next)) ∧ w.cell? ⟨b, o + 2, none⟩ = some (.int .i64 t.mark)) ∧
  w.cell? ⟨b, o + 3, none⟩ = some (.slice ea t.ents.length ecap)) ∧ TopR w (.agg #[.int .i64 t.base, .int .i64 t.next, .int .i64 t.mark, .slice ea t.ents.length ecap]) t
theorem strR_step {w w1 w2 : World} {v : Value} {s : Str} (h : StrR w v s) (hu : Below w.heap.size w w1) (hb : Below w1.heap.size w1 w2) : Hid (StrR w2 v s) := Lib.hid ((h.below hu).below hb)
theorem TopsR.shape {w : World} {v : Value} {l : List Top} (h : TopsR w v l) : ∃ a cap, v = .slice a l.length cap ∧ l.length ≤ cap ∧ cap ≤ maxLen ∧ (a = none → cap = 0) ∧
    (0 < l.length → ∃ b off, a = some ⟨b, off, none⟩ ∧ ∀ i, i < l.length → TopAt w b (off + i * 4) (l.getD i default)) := by
  obtain ⟨pl, rfl, ⟨a, cap, h1, h2, h3, h4, h5⟩, h6⟩ := h
  refine ⟨a, cap, by rw [List.length_map]; exact h1, by rw [List.length_map]; exact h2, h3, h4, fun hp => ?_⟩
  rw [List.length_map] at hp
  obtain ⟨b, off, ha, hd⟩ := h5 hp
  refine ⟨b, off, ha, fun i hi => ?_⟩
  rw [List.length_map] at hi
  have e : (pl.map (·.2)).getD i default = pl[i].2 := by simp [List.getD, hi]
  rw [e]
  have hE := h6 _ (List.getElem_mem hi)
  obtain ⟨ea, ecap, hu, hs⟩ := id hE
  have hT := topR_of hE
  rw [hu] at hT
  refine ⟨ea, ecap, ⟨⟨⟨by simpa [topCells] using hd i hi 0 (by omega), by simpa [topCells, Nat.add_assoc] using hd i hi 1 (by omega)⟩, by simpa [topCells, Nat.add_assoc] using hd i hi 2 (by omega)⟩, ?_⟩, hT⟩
  have h3 := hd i hi 3 (by omega)
  rw [Nat.add_assoc, h3]
  simp [topCells, hu]
theorem StrR.shape {w : World} {v : Value} {s : Str} (h : StrR w v s) : ∃ a cap b n c, v = .agg #[.slice a s.tops.length cap, .slice b n c] ∧ TopsR w (.slice a s.tops.length cap) s.tops ∧ RowsR w (.slice b n c) s.coms := by
  obtain ⟨ta, tc, rfl, h2, h3⟩ := h
  obtain ⟨a, cap, rfl, _⟩ := h2.shape
  obtain ⟨b, n, c, rfl⟩ := h3.shape
  exact ⟨a, cap, b, n, c, rfl, h2, h3⟩
theorem TopAt.keep {w w' : World} {b o : Nat} {t : Top} (h : TopAt w b o t) (hb : Below w.heap.size w w') : TopAt w' b o t := by
  obtain ⟨ea, ecap, ⟨⟨⟨h0, h1⟩, h2⟩, h3⟩, h4⟩ := h
  exact ⟨ea, ecap, ⟨⟨⟨Go.Proofs.Ytblgmjbajnkcdaa.keep hb h0, Go.Proofs.Ytblgmjbajnkcdaa.keep hb h1⟩, Go.Proofs.Ytblgmjbajnkcdaa.keep hb h2⟩, Go.Proofs.Ytblgmjbajnkcdaa.keep hb h3⟩, h4.below hb⟩

/-- A row among rows, as the walk spells it. -/
def RowAt (w : World) (g o : Nat) (r : List Int) : Prop := ∃ ra rcap, w.cell? ⟨g, o, none⟩ = some (.slice ra r.length rcap) ∧ SliceR w (.slice ra r.length rcap) 1 intCell r
theorem RowsR.at_ {w : World} {b : Option Addr} {n c : Nat} {m : List (List Int)} (h : RowsR w (.slice b n c) m) : (n = m.length ∧ n ≤ c ∧ c ≤ maxLen) ∧ (0 < n → ∃ g off, b = some ⟨g, off, none⟩ ∧ ∀ i, i < n → RowAt w g (off + i) (m.getD i [])) := by
  obtain ⟨us, e1, e2, e3⟩ := h
  obtain ⟨a, cap, hv, hcap, hm, _, hc⟩ := e1.one (c := fun u => u) .nilIface
  cases hv
  refine ⟨⟨e2, hcap, hm⟩, fun hp => ?_⟩
  obtain ⟨g, off, rfl, hd⟩ := hc hp
  refine ⟨g, off, rfl, fun i hi => ?_⟩
  have h1 := hd i hi
  have h2 := e3 i (by omega)
  obtain ⟨ra, rcap, hu, _⟩ := id h2
  rw [hu] at h1 h2
  exact ⟨ra, rcap, h1, h2⟩
theorem RowAt.keep {w w' : World} {g o : Nat} {r : List Int} (h : RowAt w g o r) (hb : Below w.heap.size w w') : RowAt w' g o r := by
  obtain ⟨ra, rcap, h1, h2⟩ := h
  exact ⟨ra, rcap, Go.Proofs.Ytblgmjbajnkcdaa.keep hb h1, h2.below (fun _ => rfl) hb⟩

/-! From the form's reading -/
def topFit (P : Program) (te : TypeId) (t : Top) : Prop := topOk t ∧ t.ents.length * P.bytesOf te ≤ reachBytes
theorem Reads.top {P : Program} {w : World} {t e te ti ts : TypeId} {cs : List Value} {f0 f1 f2 f3 g0 g1 g2 g3 : Field} (hr : Reads P w t cs) (T : TopTypes P t e te ti ts f0 f1 f2 f3 g0 g1 g2 g3) :
    ∃ p : Value × Top, cs = topCells p ∧ EntR w p.1 p.2 ∧ topFit P te p.2 := by
  obtain ⟨hl, hf⟩ := hr.struct T.ht
  rw [T.hc] at hl
  have r0 := hf 0 f0 rfl
  have r1 := hf 1 f1 rfl
  have r2 := hf 2 f2 rfl
  have r3 := hf 3 f3 rfl
  rw [T.e0.1, T.e0.2, T.hci] at r0
  rw [T.e1.1, T.e1.2, T.hci] at r1
  rw [T.e2.1, T.e2.2, T.hci] at r2
  rw [T.e3.1, T.e3.2, T.hce] at r3
  obtain ⟨a, ha, wa⟩ := r0.int T.hi
  obtain ⟨b, hb, wb⟩ := r1.int T.hi
  obtain ⟨c, hc', wc⟩ := r2.int T.hi
  obtain ⟨u, l, hu, hs, hsz, hok⟩ := r3.list 4 entCells entOk T.he T.hcte (by omega) (fun ds hd => hd.ent T.hte T.hcte T.hi T.hci T.hs T.hcs T.k0 T.k1 T.k2 T.k3)
  have hs' := hs
  obtain ⟨ad, cap, hua, _⟩ := hs'
  subst hua
  match cs, hl with
  | [c0, c1, c2, c3], _ =>
    simp at ha hb hc' hu
    subst ha hb hc' hu
    exact ⟨(_, ⟨a, b, c, l⟩), rfl, ⟨ad, cap, rfl, hs⟩, ⟨⟨⟨wa, wb⟩, wc⟩, hok⟩, hsz⟩

/-- What is known of a stream that comes in. -/
def strFit (P : Program) (tt te tr ti : TypeId) (s : Str) : Prop :=
  ((∀ t ∈ s.tops, topFit P te t) ∧ s.tops.length * P.bytesOf tt ≤ reachBytes) ∧ (s.coms.length * P.bytesOf tr ≤ reachBytes ∧ ∀ r ∈ s.coms, r.length * P.bytesOf ti ≤ reachBytes ∧ ∀ x ∈ r, ok64 x)

theorem Reads.tops {P : Program} {w : World} {tl t e te ti ts : TypeId} {cs : List Value} {f0 f1 f2 f3 g0 g1 g2 g3 : Field} (h : Reads P w tl cs) (hl : P.underlying tl = some (.slice t)) (T : TopTypes P t e te ti ts f0 f1 f2 f3 g0 g1 g2 g3) :
    ∃ v l, cs = [v] ∧ TopsR w v l ∧ (∀ t ∈ l, topFit P te t) ∧ l.length * P.bytesOf t ≤ reachBytes := by
  obtain ⟨v, pl, h1, h2, h2w, h3⟩ := h.list (α := Value × Top) 4 topCells (fun p => EntR w p.1 p.2 ∧ topFit P te p.2) hl T.hc (by omega) (fun ds hd => hd.top T)
  refine ⟨v, pl.map (·.2), h1, ⟨pl, rfl, h2, fun p hp => (h3 p hp).1⟩, fun x hx => ?_, by simpa using h2w⟩
  obtain ⟨p, hp, rfl⟩ := List.mem_map.1 hx
  exact (h3 p hp).2
theorem Reads.rows {P : Program} {w : World} {tl e ti : TypeId} {cs : List Value} (h : Reads P w tl cs) (hs : P.underlying tl = some (.slice e)) (he : P.underlying e = some (.slice ti)) (hi : P.underlying ti = some (.int .i64)) (hce : P.cellsOf e = 1) (hci : P.cellsOf ti = 1) :
    ∃ v m, cs = [v] ∧ RowsR w v m ∧ m.length * P.bytesOf e ≤ reachBytes ∧ ∀ r ∈ m, r.length * P.bytesOf ti ≤ reachBytes ∧ ∀ x ∈ r, ok64 x := by
  obtain ⟨v', ml, h1, h2, h2w, h3⟩ := h.list (α := Value × List Int) 1 (fun y => oneCell y.1) (fun y => SliceR w y.1 1 intCell y.2 ∧ y.2.length * P.bytesOf ti ≤ reachBytes ∧ ∀ x ∈ y.2, ok64 x) hs hce (by omega) (fun ds hd => by
    obtain ⟨u, l, e1, e2, e4, e3⟩ := hd.list 1 intCell ok64 he hci (by omega) (fun ds hd => by
      obtain ⟨n, e1, e2⟩ := hd.int hi
      exact ⟨n, e1, e2⟩)
    exact ⟨(u, l), e1, e2, e4, e3⟩)
  obtain ⟨a', cap, e1, e2, e3, e4, e5⟩ := h2
  refine ⟨v', ml.map (·.2), h1, ⟨ml.map (·.1), ⟨a', cap, by simpa using e1, by simpa using e2, e3, e4, fun hl => ?_⟩, by simp, fun i hi => ?_⟩, by simpa using h2w, fun r hr => ?_⟩
  · obtain ⟨b, off, ha, hd⟩ := e5 (by simpa using hl)
    exact ⟨b, off, ha, fun i hi j hj => by simpa using hd i (by simpa using hi) j hj⟩
  · have hi' : i < ml.length := by simpa using hi
    have := (h3 _ (List.getElem_mem hi')).1
    simpa [List.getD, hi'] using this
  · obtain ⟨y, hy, rfl⟩ := List.mem_map.1 hr
    exact (h3 y hy).2

/-- The types that a stream needs. -/
structure StrTypes (P : Program) (t tl tt tc tr ti : TypeId) (f0 f1 : Field) : Prop where
  ht : P.underlying t = some (.struct #[f0, f1])
  hc : P.cellsOf t = 2
  hl : P.underlying tl = some (.slice tt)
  hcl : P.cellsOf tl = 1
  hm : P.underlying tc = some (.slice tr)
  hcm : P.cellsOf tc = 1
  hr : P.underlying tr = some (.slice ti)
  hcr : P.cellsOf tr = 1
  e0 : f0.type = tl ∧ f0.offset = 0
  e1 : f1.type = tc ∧ f1.offset = 1

theorem open_stream {P : Program} {w : World} {r : Reach} {base : Nat} {v : Value} {H : Type} {enc : TypeId × Value → H} {sp : Nat → Bool} {d : DataW H} {ps : List MemPlace} {ts tl tc tr t e te ti tx : TypeId} {q0 q1 f0 f1 f2 f3 g0 g1 g2 g3 : Field}
    (hv : Value.okWide P w r base ts v) (h : DataW.Trod enc P w 0 sp true ts v d ps) (hw : ∀ n ∈ d.weights P ts, n ≤ reachBytes) (S : StrTypes P ts tl t tc tr ti q0 q1) (T : TopTypes P t e te ti tx f0 f1 f2 f3 g0 g1 g2 g3) :
    ∃ s : Str, StrR w v s ∧ strFit P t te tr ti s := by
  obtain ⟨cs, rfl, _⟩ := okWide_struct S.ht hv
  have hr := reads_of_trod h hw
  have h2 : (Value.agg cs).cells = cs := rfl
  rw [h2] at hr
  obtain ⟨hl, hf⟩ := hr.struct S.ht
  rw [S.hc] at hl
  have r0 := hf 0 q0 rfl
  have r1 := hf 1 q1 rfl
  rw [S.e0.1, S.e0.2, S.hcl] at r0
  rw [S.e1.1, S.e1.2, S.hcm] at r1
  obtain ⟨ta, l, ha, hta, hta2, hta3⟩ := r0.tops S.hl T
  obtain ⟨tcv, m, hb, htc, htc2, htc3⟩ := r1.rows S.hm S.hr T.hi S.hcr T.hci
  have hcs : cs = #[ta, tcv] := by
    obtain ⟨l'⟩ := cs
    simp only at hl ha hb
    match l', hl with
    | [c0, c1], _ =>
      simp at ha hb
      subst ha hb
      rfl
  rw [hcs]
  exact ⟨⟨l, m⟩, ⟨ta, tcv, rfl, hta, htc⟩, ⟨hta2, hta3⟩, htc2, htc3⟩
end Go.Proofs.Ytblgmjbajnkcdaa
