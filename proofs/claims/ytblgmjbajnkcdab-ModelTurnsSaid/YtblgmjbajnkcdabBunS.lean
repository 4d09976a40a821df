/-
  Texts that belong together; the remark at the head of each says what it proves.
-/
import Derived.Test.YtblgmjbajnkcdabBunA
import Derived.Test.YtblgmjbajnkcdabBunC
import Derived.Test.YtblgmjbajnkcdabBunD
import Derived.Test.YtblgmjbajnkcdabBunJ
import Derived.Test.YtblgmjbajnkcdabBunE
import Derived.Test.YtblgmjbajnkcdabBunB
import Derived.Deep.LoopGhost
import Derived.Test.YtblgmjbajnkcdabBunK
import Derived.Deep.RegionLaw
import Derived.Deep.AppendLies
import Derived.Deep.RegionHeld3
import Derived.Test.YtblgmjbajnkcdabBunH
import Derived.KernelRfl
set_option maxRecDepth 100000
/-
  How a group's topics read: from the form's reading to lists. No program in sight but its types.
-/
namespace Go.Proofs.Ytblgmjbajnkcdab
open Go.RowKit Go.Deep Go.WideShapes Go.ChangeShapes

theorem getD_lt {α : Type} {l : List α} {i : Nat} {d : α} (h : i < l.length) : l.getD i d = l[i] := by simp [List.getD, h]

structure Str where
  tops : List Top
  coms : List (List Int)
instance : Inhabited Top := ⟨Top.zero⟩

def topCells (p : Value × Top) : List Value := [.int .i64 p.2.base, .int .i64 p.2.next, .int .i64 p.2.mark, p.1]
theorem topCells_len (p : Value × Top) : (topCells p).length = 4 := rfl
/-- The slice value u reads as t's entries. -/
def EntR (w : World) (u : Value) (t : Top) : Prop := ∃ a cap, u = .slice a t.ents.length cap ∧ SliceR w u 4 entCells t.ents
/-- The slice v reads as these topics. -/
def TopsR (w : World) (v : Value) (l : List Top) : Prop := ∃ pl : List (Value × Top), pl.map (·.2) = l ∧ SliceR w v 4 topCells pl ∧ ∀ p ∈ pl, EntR w p.1 p.2
def StrR (w : World) (v : Value) (s : Str) : Prop := ∃ ta tc, v = .agg #[ta, tc] ∧ TopsR w ta s.tops ∧ RowsR w tc s.coms

theorem EntR.below {w w' : World} {u : Value} {t : Top} (h : EntR w u t) (hb : Below w.heap.size w w') : EntR w' u t := by
  obtain ⟨a, cap, h1, h2⟩ := h
  exact ⟨a, cap, h1, h2.below entCells_len hb⟩
theorem TopsR.below {w w' : World} {v : Value} {l : List Top} (h : TopsR w v l) (hb : Below w.heap.size w w') : TopsR w' v l := by
  obtain ⟨pl, h1, h2, h3⟩ := h
  exact ⟨pl, h1, h2.below topCells_len hb, fun p hp => (h3 p hp).below hb⟩
theorem StrR.below {w w' : World} {v : Value} {s : Str} (h : StrR w v s) (hb : Below w.heap.size w w') : StrR w' v s := by
  obtain ⟨ta, tc, h1, h2, h3⟩ := h
  exact ⟨ta, tc, h1, h2.below hb, h3.below hb⟩
theorem topR_of {w : World} {u : Value} {t : Top} (h : EntR w u t) : TopR w (.agg #[.int .i64 t.base, .int .i64 t.next, .int .i64 t.mark, u]) t := by
  obtain ⟨a, cap, rfl, h2⟩ := h
  exact ⟨a, cap, rfl, h2⟩

/-- A topic among topics, as the walk spells it. -/
def TopAt (w : World) (b o : Nat) (t : Top) : Prop := ∃ ea ecap, (((w.cell? ⟨b, o, none⟩ = some (.int .i64 t.base) ∧ w.cell? ⟨b, o + 1, none⟩ = some (.int .i64 t.next)) ∧ w.cell? ⟨b, o + 2, none⟩ = some (.int .i64 t.mark)) ∧
  w.cell? ⟨b, o + 3, none⟩ = some (.slice ea t.ents.length ecap)) ∧ TopR w (.agg #[.int .i64 t.base, .int .i64 t.next, .int .i64 t.mark, .slice ea t.ents.length ecap]) t
theorem strR_step {w w1 w2 : World} {v : Value} {s : Str} (h : StrR w v s) (hu : Below w.heap.size w w1) (hb : Below w1.heap.size w1 w2) : Hid (StrR w2 v s) := Lib.hid ((h.below hu).below hb)
theorem TopsR.shape {w : World} {v : Value} {l : List Top} (h : TopsR w v l) : ∃ a cap, v = .slice a l.length cap ∧ l.length ≤ cap ∧ cap ≤ maxLen ∧ (a = none → cap = 0) ∧
    (0 < l.length → ∃ b off, a = some ⟨b, off, none⟩ ∧ ∀ i, i < l.length → TopAt w b (off + i * 4) (l.getD i default)) := by
  obtain ⟨pl, rfl, ⟨a, cap, h1, h2, h3, h4, h5⟩, h6⟩ := h
  refine ⟨a, cap, by rw [List.length_map]; exact h1, by rw [List.length_map]; exact h2, h3, h4, fun hp => ?_⟩
  rw [List.length_map] at hp
  obtain ⟨b, off, ha, hd⟩ := h5 hp
  refine ⟨b, off, ha, fun i hi => ?_⟩
  rw [List.length_map] at hi
  have e : (pl.map (·.2)).getD i default = pl[i].2 := by simp [List.getD, hi]
  rw [e]
  have hE := h6 _ (List.getElem_mem hi)
  obtain ⟨ea, ecap, hu, hs⟩ := id hE
  have hT := topR_of hE
  rw [hu] at hT
  refine ⟨ea, ecap, ⟨⟨⟨by simpa [topCells] using hd i hi 0 (by omega), by simpa [topCells, Nat.add_assoc] using hd i hi 1 (by omega)⟩, by simpa [topCells, Nat.add_assoc] using hd i hi 2 (by omega)⟩, ?_⟩, hT⟩
  have h3 := hd i hi 3 (by omega)
  rw [Nat.add_assoc, h3]
  simp [topCells, hu]
theorem StrR.shape {w : World} {v : Value} {s : Str} (h : StrR w v s) : ∃ a cap b n c, v = .agg #[.slice a s.tops.length cap, .slice b n c] ∧ TopsR w (.slice a s.tops.length cap) s.tops ∧ RowsR w (.slice b n c) s.coms := by
  obtain ⟨ta, tc, rfl, h2, h3⟩ := h
  obtain ⟨a, cap, rfl, _⟩ := h2.shape
  obtain ⟨b, n, c, rfl⟩ := h3.shape
  exact ⟨a, cap, b, n, c, rfl, h2, h3⟩
theorem TopAt.keep {w w' : World} {b o : Nat} {t : Top} (h : TopAt w b o t) (hb : Below w.heap.size w w') : TopAt w' b o t := by
  obtain ⟨ea, ecap, ⟨⟨⟨h0, h1⟩, h2⟩, h3⟩, h4⟩ := h
  exact ⟨ea, ecap, ⟨⟨⟨Go.Proofs.Ytblgmjbajnkcdab.keep hb h0, Go.Proofs.Ytblgmjbajnkcdab.keep hb h1⟩, Go.Proofs.Ytblgmjbajnkcdab.keep hb h2⟩, Go.Proofs.Ytblgmjbajnkcdab.keep hb h3⟩, h4.below hb⟩

/-- A row among rows, as the walk spells it. -/
def RowAt (w : World) (g o : Nat) (r : List Int) : Prop := ∃ ra rcap, w.cell? ⟨g, o, none⟩ = some (.slice ra r.length rcap) ∧ SliceR w (.slice ra r.length rcap) 1 intCell r
theorem RowsR.at_ {w : World} {b : Option Addr} {n c : Nat} {m : List (List Int)} (h : RowsR w (.slice b n c) m) : (n = m.length ∧ n ≤ c ∧ c ≤ maxLen) ∧ (0 < n → ∃ g off, b = some ⟨g, off, none⟩ ∧ ∀ i, i < n → RowAt w g (off + i) (m.getD i [])) := by
  obtain ⟨us, e1, e2, e3⟩ := h
  obtain ⟨a, cap, hv, hcap, hm, _, hc⟩ := e1.one (c := fun u => u) .nilIface
  cases hv
  refine ⟨⟨e2, hcap, hm⟩, fun hp => ?_⟩
  obtain ⟨g, off, rfl, hd⟩ := hc hp
  refine ⟨g, off, rfl, fun i hi => ?_⟩
  have h1 := hd i hi
  have h2 := e3 i (by omega)
  obtain ⟨ra, rcap, hu, _⟩ := id h2
  rw [hu] at h1 h2
  exact ⟨ra, rcap, h1, h2⟩
theorem RowAt.keep {w w' : World} {g o : Nat} {r : List Int} (h : RowAt w g o r) (hb : Below w.heap.size w w') : RowAt w' g o r := by
  obtain ⟨ra, rcap, h1, h2⟩ := h
  exact ⟨ra, rcap, Go.Proofs.Ytblgmjbajnkcdab.keep hb h1, h2.below (fun _ => rfl) hb⟩

/-! From the form's reading -/
def topFit (P : Program) (te : TypeId) (t : Top) : Prop := topOk t ∧ t.ents.length * P.bytesOf te ≤ reachBytes
theorem Reads.top {P : Program} {w : World} {t e te ti ts : TypeId} {cs : List Value} {f0 f1 f2 f3 g0 g1 g2 g3 : Field} (hr : Reads P w t cs) (T : TopTypes P t e te ti ts f0 f1 f2 f3 g0 g1 g2 g3) :
    ∃ p : Value × Top, cs = topCells p ∧ EntR w p.1 p.2 ∧ topFit P te p.2 := by
  obtain ⟨hl, hf⟩ := hr.struct T.ht
  rw [T.hc] at hl
  have r0 := hf 0 f0 rfl
  have r1 := hf 1 f1 rfl
  have r2 := hf 2 f2 rfl
  have r3 := hf 3 f3 rfl
  rw [T.e0.1, T.e0.2, T.hci] at r0
  rw [T.e1.1, T.e1.2, T.hci] at r1
  rw [T.e2.1, T.e2.2, T.hci] at r2
  rw [T.e3.1, T.e3.2, T.hce] at r3
  obtain ⟨a, ha, wa⟩ := r0.int T.hi
  obtain ⟨b, hb, wb⟩ := r1.int T.hi
  obtain ⟨c, hc', wc⟩ := r2.int T.hi
  obtain ⟨u, l, hu, hs, hsz, hok⟩ := r3.list 4 entCells entOk T.he T.hcte (by omega) (fun ds hd => hd.ent T.hte T.hcte T.hi T.hci T.hs T.hcs T.k0 T.k1 T.k2 T.k3)
  have hs' := hs
  obtain ⟨ad, cap, hua, _⟩ := hs'
  subst hua
  match cs, hl with
  | [c0, c1, c2, c3], _ =>
    simp at ha hb hc' hu
    subst ha hb hc' hu
    exact ⟨(_, ⟨a, b, c, l⟩), rfl, ⟨ad, cap, rfl, hs⟩, ⟨⟨⟨wa, wb⟩, wc⟩, hok⟩, hsz⟩

/-- What is known of a stream that comes in. -/
def strFit (P : Program) (tt te tr ti : TypeId) (s : Str) : Prop :=
  ((∀ t ∈ s.tops, topFit P te t) ∧ s.tops.length * P.bytesOf tt ≤ reachBytes) ∧ (s.coms.length * P.bytesOf tr ≤ reachBytes ∧ ∀ r ∈ s.coms, r.length * P.bytesOf ti ≤ reachBytes ∧ ∀ x ∈ r, ok64 x)

theorem Reads.tops {P : Program} {w : World} {tl t e te ti ts : TypeId} {cs : List Value} {f0 f1 f2 f3 g0 g1 g2 g3 : Field} (h : Reads P w tl cs) (hl : P.underlying tl = some (.slice t)) (T : TopTypes P t e te ti ts f0 f1 f2 f3 g0 g1 g2 g3) :
    ∃ v l, cs = [v] ∧ TopsR w v l ∧ (∀ t ∈ l, topFit P te t) ∧ l.length * P.bytesOf t ≤ reachBytes := by
  obtain ⟨v, pl, h1, h2, h2w, h3⟩ := h.list (α := Value × Top) 4 topCells (fun p => EntR w p.1 p.2 ∧ topFit P te p.2) hl T.hc (by omega) (fun ds hd => hd.top T)
  refine ⟨v, pl.map (·.2), h1, ⟨pl, rfl, h2, fun p hp => (h3 p hp).1⟩, fun x hx => ?_, by simpa using h2w⟩
  obtain ⟨p, hp, rfl⟩ := List.mem_map.1 hx
  exact (h3 p hp).2
theorem Reads.rows {P : Program} {w : World} {tl e ti : TypeId} {cs : List Value} (h : Reads P w tl cs) (hs : P.underlying tl = some (.slice e)) (he : P.underlying e = some (.slice ti)) (hi : P.underlying ti = some (.int .i64)) (hce : P.cellsOf e = 1) (hci : P.cellsOf ti = 1) :
    ∃ v m, cs = [v] ∧ RowsR w v m ∧ m.length * P.bytesOf e ≤ reachBytes ∧ ∀ r ∈ m, r.length * P.bytesOf ti ≤ reachBytes ∧ ∀ x ∈ r, ok64 x := by
  obtain ⟨v', ml, h1, h2, h2w, h3⟩ := h.list (α := Value × List Int) 1 (fun y => oneCell y.1) (fun y => SliceR w y.1 1 intCell y.2 ∧ y.2.length * P.bytesOf ti ≤ reachBytes ∧ ∀ x ∈ y.2, ok64 x) hs hce (by omega) (fun ds hd => by
    obtain ⟨u, l, e1, e2, e4, e3⟩ := hd.list 1 intCell ok64 he hci (by omega) (fun ds hd => by
      obtain ⟨n, e1, e2⟩ := hd.int hi
      exact ⟨n, e1, e2⟩)
    exact ⟨(u, l), e1, e2, e4, e3⟩)
  obtain ⟨a', cap, e1, e2, e3, e4, e5⟩ := h2
  refine ⟨v', ml.map (·.2), h1, ⟨ml.map (·.1), ⟨a', cap, by simpa using e1, by simpa using e2, e3, e4, fun hl => ?_⟩, by simp, fun i hi => ?_⟩, by simpa using h2w, fun r hr => ?_⟩
  · obtain ⟨b, off, ha, hd⟩ := e5 (by simpa using hl)
    exact ⟨b, off, ha, fun i hi j hj => by simpa using hd i (by simpa using hi) j hj⟩
  · have hi' : i < ml.length := by simpa using hi
    have := (h3 _ (List.getElem_mem hi')).1
    simpa [List.getD, hi'] using this
  · obtain ⟨y, hy, rfl⟩ := List.mem_map.1 hr
    exact (h3 y hy).2

/-- The types that a stream needs. -/
structure StrTypes (P : Program) (t tl tt tc tr ti : TypeId) (f0 f1 : Field) : Prop where
  ht : P.underlying t = some (.struct #[f0, f1])
  hc : P.cellsOf t = 2
  hl : P.underlying tl = some (.slice tt)
  hcl : P.cellsOf tl = 1
  hm : P.underlying tc = some (.slice tr)
  hcm : P.cellsOf tc = 1
  hr : P.underlying tr = some (.slice ti)
  hcr : P.cellsOf tr = 1
  e0 : f0.type = tl ∧ f0.offset = 0
  e1 : f1.type = tc ∧ f1.offset = 1

theorem open_stream {P : Program} {w : World} {r : Reach} {base : Nat} {v : Value} {H : Type} {enc : TypeId × Value → H} {sp : Nat → Bool} {d : DataW H} {ps : List MemPlace} {ts tl tc tr t e te ti tx : TypeId} {q0 q1 f0 f1 f2 f3 g0 g1 g2 g3 : Field}
    (hv : Value.okWide P w r base ts v) (h : DataW.Trod enc P w 0 sp true ts v d ps) (hw : ∀ n ∈ d.weights P ts, n ≤ reachBytes) (S : StrTypes P ts tl t tc tr ti q0 q1) (T : TopTypes P t e te ti tx f0 f1 f2 f3 g0 g1 g2 g3) :
    ∃ s : Str, StrR w v s ∧ strFit P t te tr ti s := by
  obtain ⟨cs, rfl, _⟩ := okWide_struct S.ht hv
  have hr := reads_of_trod h hw
  have h2 : (Value.agg cs).cells = cs := rfl
  rw [h2] at hr
  obtain ⟨hl, hf⟩ := hr.struct S.ht
  rw [S.hc] at hl
  have r0 := hf 0 q0 rfl
  have r1 := hf 1 q1 rfl
  rw [S.e0.1, S.e0.2, S.hcl] at r0
  rw [S.e1.1, S.e1.2, S.hcm] at r1
  obtain ⟨ta, l, ha, hta, hta2, hta3⟩ := r0.tops S.hl T
  obtain ⟨tcv, m, hb, htc, htc2, htc3⟩ := r1.rows S.hm S.hr T.hi S.hcr T.hci
  have hcs : cs = #[ta, tcv] := by
    obtain ⟨l'⟩ := cs
    simp only at hl ha hb
    match l', hl with
    | [c0, c1], _ =>
      simp at ha hb
      subst ha hb
      rfl
  rw [hcs]
  exact ⟨⟨l, m⟩, ⟨ta, tcv, rfl, hta, htc⟩, ⟨hta2, hta3⟩, htc2, htc3⟩
end Go.Proofs.Ytblgmjbajnkcdab
/-
  Topics and commits that a call itself made. No program in sight but its types.
-/
namespace Go.Proofs.Ytblgmjbajnkcdab
open Go.RowKit Go.Deep

/-- The slice v is the call's own, and so are its topics' entries; they read as l. -/
def OwnT (w : World) (B : Nat) (v : Value) (l : List Top) : Prop :=
  ∃ pl : List (Value × Top), pl.map (·.2) = l ∧ w.ownsRow B 70 4 v l.length (pl.flatMap topCells) ∧ ∀ p ∈ pl, OwnE w B p.1 p.2.ents
def OwnS (w : World) (B : Nat) (v : Value) (s : Str) : Prop := ∃ ta tc, v = .agg #[ta, tc] ∧ OwnT w B ta s.tops ∧ OwnC w B tc s.coms

theorem own_ent {w : World} {B : Nat} {u : Value} {t : Top} (h : OwnE w B u t.ents) : EntR w u t := by
  obtain ⟨a, cap, rfl⟩ := own_shape h
  exact ⟨a, cap, rfl, h.reads⟩
theorem OwnT.reads {w : World} {B : Nat} {v : Value} {l : List Top} (h : OwnT w B v l) : TopsR w v l := by
  obtain ⟨pl, rfl, h2, h3⟩ := h
  rw [List.length_map] at h2
  exact ⟨pl, rfl, sliceR_of_owns topCells_len h2, fun p hp => own_ent (h3 p hp)⟩
theorem OwnS.reads {w : World} {B : Nat} {v : Value} {s : Str} (h : OwnS w B v s) : StrR w v s := by
  obtain ⟨ta, tc, rfl, h2, h3⟩ := h
  exact ⟨ta, tc, rfl, h2.reads, h3.reads⟩
theorem OwnT.keep {w w' : World} {B : Nat} {v : Value} {l : List Top} (h : OwnT w B v l) (hb : Below w.heap.size w w') : OwnT w' B v l := by
  obtain ⟨pl, h1, h2, h3⟩ := h
  exact ⟨pl, h1, ownsRow_keep h2 hb, fun p hp => own_below (h3 p hp) hb⟩
theorem OwnT.le {w : World} {B B' : Nat} {v : Value} {l : List Top} (h : OwnT w B v l) (hB : B' ≤ B) : OwnT w B' v l := by
  obtain ⟨pl, h1, h2, h3⟩ := h
  exact ⟨pl, h1, ownsRow_le h2 hB, fun p hp => own_base (h3 p hp) hB⟩
theorem OwnS.keep {w w' : World} {B : Nat} {v : Value} {s : Str} (h : OwnS w B v s) (hb : Below w.heap.size w w') : OwnS w' B v s := by
  obtain ⟨ta, tc, h1, h2, h3⟩ := h
  exact ⟨ta, tc, h1, h2.keep hb, h3.keep hb⟩
theorem OwnS.le {w : World} {B B' : Nat} {v : Value} {s : Str} (h : OwnS w B v s) (hB : B' ≤ B) : OwnS w B' v s := by
  obtain ⟨ta, tc, h1, h2, h3⟩ := h
  exact ⟨ta, tc, h1, h2.le hB, h3.le hB⟩
theorem OwnT.nil (w : World) (B : Nat) : OwnT w B (.slice none 0 0) [] := ⟨[], rfl, World.ownsRow_nil _ _ _ _, fun _ h => by cases h⟩
theorem OwnT.shape {w : World} {B : Nat} {v : Value} {l : List Top} (h : OwnT w B v l) : ∃ a cap, v = .slice a l.length cap := by
  obtain ⟨a, cap, hv, _⟩ := h.reads.shape
  exact ⟨a, cap, hv⟩
theorem OwnT.drew {w : World} {B : Nat} {v : Value} {l : List Top} (h : OwnT w B v l) : OwnT w.drew B v l := h
theorem OwnT.alloc {w : World} {B : Nat} {v : Value} {l : List Top} (h : OwnT w B v l) (o : Obj) : OwnT (w.alloc o) B v l := h.keep ((Below.refl _ _).alloc (Nat.le_refl _) _)
theorem rows_ne {w : World} {b1 b2 : Nat} {e1 e2 : TypeId} {s1 s2 n1 n2 k : Nat} {v1 v2 : Value} {xs1 xs2 : List Value} (h1 : w.ownsRow b1 e1 s1 v1 n1 xs1) (h2 : w.ownsRow b2 e2 s2 v2 n2 xs2) (he : e1 ≠ e2) (hk : v2.ownBlock = some k) : v1.ownBlock ≠ some k := by
  rcases rows_apart h1 h2 he with h | h
  · rw [h]; simp
  · rw [hk] at h; exact h
theorem ownsRow_grown {w w' : World} {B k s n : Nat} {e : TypeId} {v : Value} {xs : List Value} {row : Option Nat} (h : w.ownsRow B e s v n xs) (hg : w.grownBy w' row) (hk : row = some k → v.ownBlock ≠ some k) (hs : row = none ∨ row = some k) : w'.ownsRow B e s v n xs :=
  ⟨h.1, h.2.elim Or.inl (fun ⟨g, cp, cur, hv, hB, hh, q⟩ => Or.inr ⟨g, cp, cur, hv, hB, (hg.block g (Array.getElem?_eq_some_iff.1 hh).1 (fun e => by
    rcases hs with h0 | h0
    · rw [h0] at e; cases e
    · exact hk h0 (by rw [hv, ← h0, ← e]; rfl))).trans hh, q⟩)⟩
theorem ownsRow_grown' {w w' : World} {B s n : Nat} {e : TypeId} {v : Value} {xs : List Value} {row : Option Nat} (h : w.ownsRow B e s v n xs) (hg : w.grownBy w' row) (hk : ∀ k, row = some k → v.ownBlock ≠ some k) : w'.ownsRow B e s v n xs := by
  cases row with
  | none => exact ownsRow_grown (k := 0) h hg (fun e => by cases e) (Or.inl rfl)
  | some k => exact ownsRow_grown h hg (fun _ => hk k rfl) (Or.inr rfl)

/-- One topic more. -/
theorem OwnT.snoc {w w' : World} {B : Nat} {v v' u : Value} {l : List Top} {t : Top} (h : OwnT w B v l) (hu : OwnE w B u t.ents) (hg : w.grownBy w' v.ownBlock)
    (hv : ∀ xs, w.ownsRow B 70 4 v l.length xs → w'.ownsRow B 70 4 v' (l.length + 1) (xs ++ topCells (u, t))) : OwnT w' B v' (l ++ [t]) := by
  obtain ⟨pl, h1, h2, h3⟩ := h
  refine ⟨pl ++ [(u, t)], by simp [h1], ?_, fun p hp => ?_⟩
  · have := hv _ h2
    simpa [List.flatMap_append] using this
  · have hne : ∀ q : Value × Top, OwnE w B q.1 q.2.ents → OwnE w' B q.1 q.2.ents := fun q hq => ownsRow_grown' hq hg (fun k hk => rows_ne hq h2 (by decide) hk)
    rcases List.mem_append.1 hp with hp | hp
    · exact hne p (h3 p hp)
    · rw [List.mem_singleton.1 hp]
      exact hne (u, t) hu

theorem flat4_set (pl : List (Value × Top)) (i : Nat) (p : Value × Top) (hi : i < pl.length) :
    ((((pl.flatMap topCells).set (i * 4) (.int .i64 p.2.base)).set (i * 4 + 1) (.int .i64 p.2.next)).set (i * 4 + 2) (.int .i64 p.2.mark)).set (i * 4 + 3) p.1 = (pl.set i p).flatMap topCells := by
  induction pl generalizing i with
  | nil => simp at hi
  | cons y l ih =>
    cases i with
    | zero => simp [topCells]
    | succ i =>
      have := ih i (by simpa using hi)
      simp only [List.flatMap_cons, List.set_cons_succ, ← this]
      have e : ∀ (m : Nat) (v : Value) (r : List Value), (topCells y ++ r).set (4 + m) v = topCells y ++ r.set m v := fun m v r => by
        rw [List.set_append_right (h := by simp [topCells])]
        simp [topCells]
      have a0 : (i + 1) * 4 = 4 + i * 4 := by omega
      rw [a0, e, Nat.add_assoc, e, Nat.add_assoc, e, Nat.add_assoc, e]

/-- A topic at place i of an own row. -/
def putT (W : World) (g i : Nat) (u : Value) (t : Top) : World := (((W.setCell ⟨g, i * 4, none⟩ (.int .i64 t.base)).setCell ⟨g, i * 4 + 1, none⟩ (.int .i64 t.next)).setCell ⟨g, i * 4 + 2, none⟩ (.int .i64 t.mark)).setCell ⟨g, i * 4 + 3, none⟩ u
theorem heap_putT {W : World} {g i b : Nat} {u : Value} {t : Top} (h : b ≠ g) : (putT W g i u t).heap[b]? = W.heap[b]? := by
  unfold putT
  rw [heap_setCell_other _ _ _ _ h, heap_setCell_other _ _ _ _ h, heap_setCell_other _ _ _ _ h, heap_setCell_other _ _ _ _ h]
theorem below_putT {W W0 : World} {B g i : Nat} {u : Value} {t : Top} (h : Below B W0 W) (hB : B ≤ g) : Below B W0 (putT W g i u t) :=
  (((h.setCell (p := ⟨g, _, none⟩) hB _).setCell (p := ⟨g, _, none⟩) hB _).setCell (p := ⟨g, _, none⟩) hB _).setCell (p := ⟨g, _, none⟩) hB _
theorem row_far {w w' : World} {B s n g : Nat} {e : TypeId} {v : Value} {xs : List Value} (h : w.ownsRow B e s v n xs) (hh : ∀ b, b ≠ g → w'.heap[b]? = w.heap[b]?) (hv : v.ownBlock ≠ some g) : w'.ownsRow B e s v n xs :=
  ⟨h.1, h.2.elim Or.inl (fun ⟨g', cp, cur, hv', hB, hg, q⟩ => Or.inr ⟨g', cp, cur, hv', hB, (hh g' (fun e => hv (by rw [hv', e]; rfl))).trans hg, q⟩)⟩
theorem OwnT.put {W : World} {B g n cap i : Nat} {u : Value} {l : List Top} {t : Top} (h : OwnT W B (.slice (some ⟨g, 0, none⟩) n cap) l) (hi : i < l.length) (hu : OwnE W B u t.ents) :
    OwnT (putT W g i u t) B (.slice (some ⟨g, 0, none⟩) n cap) (l.set i t) := by
  obtain ⟨pl, rfl, h2, h3⟩ := h
  rw [List.length_map] at h2 hi
  obtain rfl : n = pl.length := by
    rcases h2.2 with ⟨e, _⟩ | ⟨_, _, _, e, _⟩
    · cases e
    · cases e; rfl
  have s1 := (h2.stored (i * 4) (.int .i64 t.base)).1
  have s2 := (s1.stored (i * 4 + 1) (.int .i64 t.next)).1
  have s3 := (s2.stored (i * 4 + 2) (.int .i64 t.mark)).1
  have s4 := (s3.stored (i * 4 + 3) u).1
  rw [flat4_set pl i (u, t) hi] at s4
  have hne : ∀ q : Value × Top, OwnE W B q.1 q.2.ents → OwnE (putT W g i u t) B q.1 q.2.ents := fun q hq => row_far hq (fun b hb => heap_putT hb) (rows_ne hq h2 (by decide) rfl)
  refine ⟨pl.set i (u, t), by simp, ?_, fun p hp => ?_⟩
  · rw [List.length_set, List.length_map]
    exact s4
  · rcases List.mem_or_eq_of_mem_set hp with hp | hp
    · exact hne p (h3 p hp)
    · subst hp
      exact hne (u, t) hu
/-- The cells of place i. -/
theorem OwnT.at_ {W : World} {B i n cap : Nat} {a : Option Addr} {l : List Top} (h : OwnT W B (.slice a n cap) l) (hi : i < l.length) : ∃ g, a = some ⟨g, 0, none⟩ ∧ (B ≤ g ∧ g < W.heap.size) ∧ (n = l.length ∧ n ≤ cap ∧ cap ≤ maxLen) ∧ TopAt W g (i * 4) (l.getD i default) ∧ ∀ o, W.frozen? ⟨g, o, none⟩ = false := by
  obtain ⟨a', cap', hv, hc, hm, _, hd⟩ := h.reads.shape
  cases hv
  obtain ⟨b, off, rfl, hd2⟩ := hd (by omega)
  have hat := hd2 i hi
  clear hd hd2
  obtain ⟨pl, rfl, h2, h3⟩ := h
  rcases id h2.2 with ⟨e, h0⟩ | ⟨g, cp, cur, e, hB, hh, _⟩
  · rw [List.length_map] at hi h0; omega
  · cases e
    rw [Nat.zero_add] at hat
    rw [List.length_map] at h2
    exact ⟨b, rfl, ⟨hB, (Array.getElem?_eq_some_iff.1 hh).1⟩, ⟨rfl, hc, hm⟩, hat, fun o => by rw [List.length_map] at *; exact h2.frozenAt o⟩
/-- Stores into a block that is none of these topics'. -/
theorem OwnT.far {W : World} {B b o : Nat} {v u : Value} {l : List Top} (h : OwnT W B v l) (hb : b < B) : OwnT (W.setCell ⟨b, o, none⟩ u) B v l := by
  obtain ⟨pl, h1, h2, h3⟩ := h
  exact ⟨pl, h1, ownsRow_setCell_other h2 (fun e => by have := (h2.lt _ e).1; simp at this; omega) u, fun p hp => own_set (h3 p hp) hb⟩
theorem OwnC.far {W : World} {B b o : Nat} {v u : Value} {m : List (List Int)} (h : OwnC W B v m) (hb : b < B) : OwnC (W.setCell ⟨b, o, none⟩ u) B v m := by
  obtain ⟨us, h1, h2, h3, h4⟩ := h
  exact ⟨us, ownsRow_setCell_other h1 (fun e => by have := (h1.lt _ e).1; simp at this; omega) u, h2, fun i hi => ownsRow_setCell_other (h3 i hi) (fun e => by have := ((h3 i hi).lt _ e).1; simp at this; omega) u, h4⟩
/-- Stores into a box of another type. -/
theorem row_blk {w : World} {B s n g : Nat} {e t : TypeId} {v : Value} {xs cs : List Value} (h : w.ownsRow B e s v n xs) (hb : Blk w g t cs) (he : e ≠ t) : v.ownBlock ≠ some g := by
  rcases h.2 with ⟨rfl, _⟩ | ⟨g1, c1, cur1, rfl, _, hh1, _⟩
  · simp [Value.ownBlock]
  · intro hg
    have : g1 = g := by simpa [Value.ownBlock] using hg
    subst this
    rw [hb] at hh1
    simp at hh1
    exact he hh1.2.symm
theorem OwnC.blk {W : World} {B b o : Nat} {t : TypeId} {cs : List Value} {v u : Value} {m : List (List Int)} (h : OwnC W B v m) (hb : Blk W b t cs) (h1t : 43 ≠ t) (h2t : 3 ≠ t) : OwnC (W.setCell ⟨b, o, none⟩ u) B v m := by
  obtain ⟨us, h1, h2, h3, h4⟩ := h
  exact ⟨us, ownsRow_setCell_other h1 (row_blk h1 hb h1t) u, h2, fun i hi => ownsRow_setCell_other (h3 i hi) (row_blk (h3 i hi) hb h2t) u, h4⟩
theorem OwnT.blk {W : World} {B b o : Nat} {t : TypeId} {cs : List Value} {v u : Value} {l : List Top} (h : OwnT W B v l) (hb : Blk W b t cs) (h1t : 70 ≠ t) (h2t : 29 ≠ t) : OwnT (W.setCell ⟨b, o, none⟩ u) B v l := by
  obtain ⟨pl, h1, h2, h3⟩ := h
  exact ⟨pl, h1, ownsRow_setCell_other h2 (row_blk h2 hb h1t) u, fun p hp => ownsRow_setCell_other (h3 p hp) (row_blk (h3 p hp) hb h2t) u⟩
theorem OwnC.alloc {W : World} {B : Nat} {v : Value} {m : List (List Int)} (h : OwnC W B v m) (o : Obj) : OwnC (W.alloc o) B v m := h.keep ((Below.refl _ _).alloc (Nat.le_refl _) _)
/-- Rows of numbers over what turns only blocks that are none of them. -/
theorem OwnC.over {w w' : World} {B g : Nat} {v : Value} {m : List (List Int)} (h : OwnC w B v m) (hh : ∀ b, b ≠ g → w'.heap[b]? = w.heap[b]?) {b2 s2 n2 : Nat} {v2 : Value} {e2 : TypeId} {xs2 : List Value} (h2 : w.ownsRow b2 e2 s2 v2 n2 xs2) (hg : v2.ownBlock = some g) (h1e : 43 ≠ e2) (h2e : 3 ≠ e2) : OwnC w' B v m := by
  obtain ⟨us, k1, k2, k3, k4⟩ := h
  exact ⟨us, row_far k1 hh (rows_ne k1 h2 h1e hg), k2, fun i hi => row_far (k3 i hi) hh (rows_ne (k3 i hi) h2 h2e hg), k4⟩
theorem OwnC.grown {w w' : World} {B : Nat} {v : Value} {m : List (List Int)} {row : Option Nat} (h : OwnC w B v m) (hg : w.grownBy w' row) {b2 s2 n2 : Nat} {v2 : Value} {e2 : TypeId} {xs2 : List Value} (h2 : w.ownsRow b2 e2 s2 v2 n2 xs2) (hr : row = v2.ownBlock) (h1e : 43 ≠ e2) (h2e : 3 ≠ e2) : OwnC w' B v m := by
  subst hr
  obtain ⟨us, k1, k2, k3, k4⟩ := h
  exact ⟨us, ownsRow_grown' k1 hg (fun k hk => rows_ne k1 h2 h1e hk), k2, fun i hi => ownsRow_grown' (k3 i hi) hg (fun k hk => rows_ne (k3 i hi) h2 h2e hk), k4⟩
/-- The cells of a topic that was just laid down. -/
theorem news_top (u : Value) (x : Top) {W : World} {g : Nat} {t : TypeId} (hg : g = W.heap.size) : ∀ j y, (topCells (u, x))[j]? = some y → (W.alloc (.cells #[.int .i64 x.base, .int .i64 x.next, .int .i64 x.mark, u] t)).cell? ((⟨g, 0, none⟩ : Addr).add j) = some y := by
  intro j y hy
  have hB := Blk.new (w := W) (t := t) (cs := topCells (u, x)) hg
  have h := hB.cell j
  rw [show ((⟨g, 0, none⟩ : Addr).add j) = ⟨g, j, none⟩ by unfold Addr.add; split <;> simp_all]
  rw [← hy]
  exact h
theorem topCells_one (a : Option Addr) (n c : Nat) (x : Top) : ∀ v ∈ topCells (.slice a n c, x), v.oneCell' = true := by
  intro v hv
  simp [topCells] at hv
  rcases hv with rfl | rfl | rfl | rfl <;> rfl
theorem info_top : (Try.prog.info? 70).map (fun i => (i.zero, i.size, i.bytes)) = some (some (.agg #[.int .i64 0, .int .i64 0, .int .i64 0, .slice none 0 0]), 4, 48) := by kernel_rfl
end Go.Proofs.Ytblgmjbajnkcdab
/-
  stream.Check and what it calls: slices.ContainsFunc at topics, slices.Max at numbers. No condition but that the topics read.
-/
namespace Go.Proofs.Ytblgmjbajnkcdab
open Go.RowKit

/-- May a group's topics be? -/
def mayS (s : Str) : Prop := (s.tops.length = 4 ∧ (∀ t ∈ s.tops, t.may)) ∧ okC s.coms = true ∧ ∀ i, i < 4 → ∀ k, k < 8 → ((s.coms.getD i []).getD k 0) ≤ (s.tops.getD i default).next
instance (s : Str) : Decidable (mayS s) := by unfold mayS; infer_instance
/-- The keys of the topics are not very long. -/
def strKeys (s : Str) : Prop := ∀ t ∈ s.tops, ∀ x ∈ t.ents, x.key.size ≤ maxLen
def topBad (t : Top) : Bool := !decide t.may

theorem topBad_any {v : Value} {t : Top} {w : World} (h : TopR w v t) (hk : ∀ x ∈ t.ents, x.key.size ≤ maxLen) :
    Calls Try.prog 72 #[v] w fun e w' => e = .returned (.bool (topBad t)) ∧ Below w.heap.size w w' := by
  have T := Lib.hid h
  have HK := Lib.hid hk
  obtain ⟨a, cap, rfl, _⟩ := h
  clear hk
  by_cases hm : t.may
  · have HM := Lib.hid hm
    rw [topBad, decide_eq_true hm]
    clear hm
    go_enter Try.func72, Try.ntmps72
    go_wp2_with fail
    refine Calls.mono (check_yes ?_ HK.out HM.out) ?_
    · exact T.out.below (by repeat (first | (with_reducible exact Below.refl _ _) | (with_reducible exact Below.refl _ _) | (with_reducible apply Below.drew) | (with_reducible apply below_alloc) | ((with_reducible refine Below.alloc ?_ ?_ _); rotate_left; focus (first | (simp; done) | (simp; omega) | omega)) | ((with_reducible refine Below.setCell ?_ ?_ _); rotate_left; focus (first | (simp; done) | (simp; omega) | omega))))
    rintro e w2 ⟨rfl, hb⟩
    have HB : Hid (Below w.heap.size w _) := below_step (by repeat (first | (with_reducible exact Below.refl _ _) | (with_reducible exact Below.refl _ _) | (with_reducible apply Below.drew) | (with_reducible apply below_alloc) | ((with_reducible refine Below.alloc ?_ ?_ _); rotate_left; focus (first | (simp; done) | (simp; omega) | omega)) | ((with_reducible refine Below.setCell ?_ ?_ _); rotate_left; focus (first | (simp; done) | (simp; omega) | omega)))) hb
    clear hb
    go_wp2_with fail
    go_ret
    exact ⟨rfl, HB.out⟩
  · have HM := Lib.hid hm
    rw [topBad, decide_eq_false hm]
    clear hm
    go_enter Try.func72, Try.ntmps72
    go_wp2_with fail
    refine Calls.mono (check_no ?_ HK.out HM.out) ?_
    · exact T.out.below (by repeat (first | (with_reducible exact Below.refl _ _) | (with_reducible exact Below.refl _ _) | (with_reducible apply Below.drew) | (with_reducible apply below_alloc) | ((with_reducible refine Below.alloc ?_ ?_ _); rotate_left; focus (first | (simp; done) | (simp; omega) | omega)) | ((with_reducible refine Below.setCell ?_ ?_ _); rotate_left; focus (first | (simp; done) | (simp; omega) | omega))))
    rintro e w2 ⟨rfl, hb⟩
    have HB : Hid (Below w.heap.size w _) := below_step (by repeat (first | (with_reducible exact Below.refl _ _) | (with_reducible exact Below.refl _ _) | (with_reducible apply Below.drew) | (with_reducible apply below_alloc) | ((with_reducible refine Below.alloc ?_ ?_ _); rotate_left; focus (first | (simp; done) | (simp; omega) | omega)) | ((with_reducible refine Below.setCell ?_ ?_ _); rotate_left; focus (first | (simp; done) | (simp; omega) | omega)))) hb
    clear hb
    go_wp2_with fail
    go_ret
    exact ⟨rfl, HB.out⟩

def SomeTop (l : List Top) (w : World) (e : Ending) (w' : World) : Prop := (∃ i : Int, e = .returned (.int .i64 i) ∧ (if l.any topBad then 0 ≤ i else i = -1)) ∧ Below w.heap.size w w'

set_option maxHeartbeats 1000000 in
set_option maxRecDepth 100000 in
theorem idxTop_any {v : Value} {l : List Top} {w : World} (h : TopsR w v l) (hk : ∀ t ∈ l, ∀ x ∈ t.ents, x.key.size ≤ maxLen) :
    Calls Try.prog 99 #[v, .func (.func 72) #[] #[]] w (SomeTop l w) := by
  have HK := Lib.hid hk
  obtain ⟨a, cap, rfl, hcap, hm, _, hd⟩ := h.shape
  unfold maxLen at hm
  have HD := Lib.hid hd
  obtain ⟨n, hn⟩ : ∃ n, n = l.length := ⟨_, rfl⟩
  rw [← hn] at HD hcap ⊢
  have HN := Lib.hid hn
  have hn' : (n : Int) ≤ 9223372036854775807 := by omega
  clear hk hd h hn
  go_enter Try.func99, Try.ntmps99
  go_wp2_with fail
  go_loopg [5, 8] n (fun g _ i wr => ∃ k : Nat, k ≤ n ∧ g = n - k ∧ i = .int .i64 (k : Int) ∧ Hid (∀ j, j < k → topBad (l.getD j default) = false) ∧ Hid (Below w.heap.size w wr))
  case atStart => exact ⟨0, Nat.zero_le _, rfl, rfl, (fun j hj => absurd hj (Nat.not_lt_zero _)), Below.refl _ _⟩
  case round =>
    obtain ⟨k, hk, rfl, rfl, hno, HB⟩ := hrel
    by_cases hlt : k < n
    · have hk0 : (0 : Int) ≤ (k : Int) := by omega
      have hk1 : (k : Int) < (n : Int) := by omega
      obtain ⟨bb, off, ha, hat⟩ := HD.out (by omega)
      subst ha
      obtain ⟨x, hx⟩ : ∃ x, x = l.getD k default := ⟨_, rfl⟩
      have hat2 := hat k hlt
      rw [← hx] at hat2
      obtain ⟨ea, ecap, ⟨⟨⟨c0, c1⟩, c2⟩, c3⟩, hT⟩ := hat2.keep HB.out
      have T := Lib.hid hT
      have HX := Lib.hid hx
      have HKX := Lib.hid (show ∀ y ∈ x.ents, y.key.size ≤ maxLen by
        have hkl : k < l.length := by rw [← HN.out]; exact hlt
        refine HK.out x ?_
        rw [hx, show l.getD k default = l[k] by simp [List.getD, hkl]]
        exact List.getElem_mem hkl)
      obtain ⟨q, hq⟩ : ∃ q, q = topBad x := ⟨_, rfl⟩
      have L : ∀ W, TopR W (.agg #[.int .i64 x.base, .int .i64 x.next, .int .i64 x.mark, .slice ea x.ents.length ecap]) x → Calls Try.prog 72 #[.agg #[.int .i64 x.base, .int .i64 x.next, .int .i64 x.mark, .slice ea x.ents.length ecap]] W fun e w' => e = .returned (.bool q) ∧ Below W.heap.size W w' := fun W hW => by rw [hq]; exact topBad_any hW HKX.out
      have HL := Lib.hid L
      have HQ := Lib.hid hq
      clear hat hat2 hT hx hq L
      cases q
      all_goals
        go_wp2_with fail
        refine Calls.mono (HL.out _ ?_) ?_
        · exact T.out.below (by repeat (first | (with_reducible exact Below.refl _ _) | (with_reducible exact Below.refl _ _) | (with_reducible apply Below.drew) | (with_reducible apply below_alloc) | ((with_reducible refine Below.alloc ?_ ?_ _); rotate_left; focus (first | (simp; done) | (simp; omega) | omega)) | ((with_reducible refine Below.setCell ?_ ?_ _); rotate_left; focus (first | (simp; done) | (simp; omega) | omega))))
        rintro e w1 ⟨rfl, hb⟩
        replace HB : Hid (Below w.heap.size w _) := below_step (by repeat (first | (with_reducible exact HB.out) | (with_reducible exact Below.refl _ _) | (with_reducible apply Below.drew) | (with_reducible apply below_alloc) | ((with_reducible refine Below.alloc ?_ ?_ _); rotate_left; focus (first | (simp; done) | (simp; omega) | omega)) | ((with_reducible refine Below.setCell ?_ ?_ _); rotate_left; focus (first | (simp; done) | (simp; omega) | omega)))) hb
        clear hb c0 c1 c2 c3
        go_wp2_with fail
      · go_roundg (n - (k + 1))
        case measure => omega
        case rel =>
          refine ⟨k + 1, by omega, rfl, by go_num, fun j hj => ?_, HB⟩
          by_cases hjk : j < k
          · exact hno.out j hjk
          · obtain rfl : j = k := by omega
            rw [← HX.out, ← HQ.out]
      · go_ret
        refine ⟨⟨k, rfl, ?_⟩, HB.out⟩
        have : l.any topBad = true := by
          rw [List.any_eq_true]
          have h1 := HN.out
          refine ⟨x, ?_, HQ.out.symm⟩
          rw [HX.out, show l.getD k default = l[k]'(by omega) by simp [List.getD, show k < l.length by omega]]
          exact List.getElem_mem _
        rw [if_pos this]
        omega
    · obtain rfl : k = n := by omega
      have hlt' : ¬ (k : Int) < (k : Int) := by omega
      go_wp2_with fail
      go_ret
      refine ⟨⟨-1, rfl, ?_⟩, HB.out⟩
      have : l.any topBad = false := by
        rw [List.any_eq_false]
        intro y hy
        obtain ⟨j, hj, rfl⟩ := List.getElem_of_mem hy
        have h1 := HN.out
        have h2 := hno.out j (by omega)
        simpa [List.getD, hj] using h2
      rw [this]
      rfl

theorem contTop_any {v : Value} {l : List Top} {w : World} (h : TopsR w v l) (hk : ∀ t ∈ l, ∀ x ∈ t.ents, x.key.size ≤ maxLen) :
    Calls Try.prog 74 #[v, .func (.func 72) #[] #[]] w fun e w' => e = .returned (.bool (l.any topBad)) ∧ Below w.heap.size w w' := by
  have K := Lib.hid (idxTop_any h hk)
  obtain ⟨a, cap, rfl, _⟩ := h.shape
  obtain ⟨c, hc⟩ : ∃ c, c = l.any topBad := ⟨_, rfl⟩
  rw [← hc]
  have HC := Lib.hid hc
  obtain ⟨n, hn⟩ : ∃ n, n = l.length := ⟨_, rfl⟩
  rw [← hn] at K ⊢
  clear hc h hk hn
  go_enter Try.func74, Try.ntmps74
  go_wp2_with fail
  refine K.out.mono ?_
  rintro e w1 ⟨⟨i, rfl, hi⟩, hb⟩
  rw [← HC.out] at hi
  cases c
  · simp only [Bool.false_eq_true, if_false] at hi
    subst hi
    go_wp2_with fail
    go_ret
    exact ⟨rfl, hb⟩
  · rw [if_pos rfl] at hi
    go_wp2_with fail
    go_ret
    exact ⟨rfl, hb⟩

/-- The greatest of some numbers. -/
def maxL (l : List Int) : Int := l.foldl max (l.getD 0 0)
theorem foldl_max (l : List Int) : ∀ a : Int, (a ≤ l.foldl max a ∧ ∀ x ∈ l, x ≤ l.foldl max a) ∧ (l.foldl max a = a ∨ l.foldl max a ∈ l) := by
  induction l with
  | nil => intro a; exact ⟨⟨Int.le_refl _, fun x hx => by cases hx⟩, Or.inl rfl⟩
  | cons y l ih =>
    intro a
    obtain ⟨⟨h1, h2⟩, h3⟩ := ih (max a y)
    refine ⟨⟨by simp only [List.foldl_cons]; omega, fun x hx => ?_⟩, ?_⟩
    · rcases List.mem_cons.1 hx with rfl | hx
      · simp only [List.foldl_cons]; omega
      · exact h2 x hx
    · simp only [List.foldl_cons]
      rcases h3 with h3 | h3
      · rw [h3]
        by_cases h : a ≤ y
        · right; rw [show max a y = y by omega]; exact List.mem_cons_self
        · left; omega
      · right; exact List.mem_cons_of_mem _ h3
theorem maxL_spec {l : List Int} (hl : 0 < l.length) : (∀ x ∈ l, x ≤ maxL l) ∧ maxL l ∈ l := by
  obtain ⟨⟨_, h2⟩, h3⟩ := foldl_max l (l.getD 0 0)
  refine ⟨h2, ?_⟩
  rcases h3 with h3 | h3
  · unfold maxL
    rw [h3, show l.getD 0 0 = l[0] by simp [List.getD, hl]]
    exact List.getElem_mem _
  · exact h3
theorem maxL_eq {l : List Int} {m : Int} (h1 : ∀ x ∈ l, x ≤ m) (h2 : m ∈ l) : m = maxL l := by
  obtain ⟨h3, h4⟩ := maxL_spec (l := l) (List.length_pos_of_mem h2)
  have := h1 _ h4
  have := h3 _ h2
  omega
def MaxEnd (l : List Int) (w : World) (e : Ending) (w' : World) : Prop := e = .returned (.int .i64 (maxL l)) ∧ w = w'
theorem maxInt_any {v : Value} {l : List Int} {w : World} (h : SliceR w v 1 intCell l) (hl : 0 < l.length) :
    Calls Try.prog 76 #[v] w (MaxEnd l w) := by
  obtain ⟨a, cap, rfl, hcap, hm, _, hc⟩ := h.one (c := fun n => .int .i64 n) 0
  obtain ⟨b, off, rfl, hd⟩ := hc hl
  unfold maxLen at hm
  have HD := Lib.hid hd
  have c0 := hd 0 hl
  rw [Nat.add_zero] at c0
  obtain ⟨n, hn⟩ : ∃ n, n = l.length := ⟨_, rfl⟩
  rw [← hn] at HD hcap hl ⊢
  have HN := Lib.hid hn
  have hn' : (n : Int) ≤ 9223372036854775807 := by omega
  have hl' : (0 : Int) < (n : Int) := by omega
  have hl1 : ¬ (n : Int) < 1 := by omega
  obtain ⟨x0, hx0⟩ : ∃ x, x = l.getD 0 0 := ⟨_, rfl⟩
  rw [← hx0] at c0
  have HX0 := Lib.hid hx0
  clear hc hd h hn hx0
  go_enter Try.func76, Try.ntmps76
  go_wp2_with fail
  go_loopg [3, 4] (n - 1) (fun g m i wr => ∃ (k : Nat) (y : Int), 1 ≤ k ∧ k ≤ n ∧ g = n - k ∧ i = .int .i64 (k : Int) ∧ m = .int .i64 y ∧ Hid ((∀ j, j < k → l.getD j 0 ≤ y) ∧ y ∈ l) ∧ wr = w)
  case atStart =>
    refine ⟨1, x0, Nat.le_refl _, hl, rfl, rfl, rfl, ⟨fun j hj => ?_, ?_⟩, rfl⟩
    · obtain rfl : j = 0 := by omega
      rw [HX0.out]; exact Int.le_refl _
    · have := HN.out
      rw [HX0.out, show l.getD 0 0 = l[0]'(by omega) by simp [List.getD, show 0 < l.length by omega]]
      exact List.getElem_mem _
  case round =>
    obtain ⟨k, y, h1k, hk, rfl, rfl, rfl, hy, rfl⟩ := hrel
    by_cases hlt : k < n
    · have hk0 : (0 : Int) ≤ (k : Int) := by omega
      have hk1 : (k : Int) < (n : Int) := by omega
      have cc := HD.out k hlt
      obtain ⟨x, hx⟩ : ∃ x, x = l.getD k 0 := ⟨_, rfl⟩
      rw [← hx] at cc
      have HX := Lib.hid hx
      clear hx
      go_wp2_with fail
      go_roundg (n - (k + 1))
      case measure => omega
      case rel =>
        refine ⟨k + 1, max y x, by omega, by omega, rfl, by go_num, rfl, ⟨fun j hj => ?_, ?_⟩, rfl⟩
        · by_cases hjk : j < k
          · have := hy.out.1 j hjk; omega
          · obtain rfl : j = k := by omega
            rw [← HX.out]; omega
        · rcases Int.max_def y x ▸ (by split <;> simp : (if y ≤ x then x else y) = x ∨ (if y ≤ x then x else y) = y) with h | h
          · have e : max y x = x := by rw [Int.max_def]; exact h
            have hl2 := HN.out
            rw [e, HX.out, show l.getD k 0 = l[k]'(by omega) by simp [List.getD, show k < l.length by omega]]
            exact List.getElem_mem _
          · have e : max y x = y := by rw [Int.max_def]; exact h
            rw [e]; exact hy.out.2
    · obtain rfl : k = n := by omega
      have hlt' : ¬ (k : Int) < (k : Int) := by omega
      go_wp2_with fail
      go_ret
      have e : y = maxL l := maxL_eq (fun z hz => ?_) hy.out.2
      · rw [e]
        exact ⟨rfl, rfl⟩
      obtain ⟨j, hj, rfl⟩ := List.getElem_of_mem hz
      have := hy.out.1 j (by rw [HN.out]; exact hj)
      simpa [List.getD, hj] using this

/-- The row of a topic's consumers lies within what it has. -/
def rowIn (s : Str) (i : Nat) : Bool := decide (maxL (s.coms.getD i []) ≤ (s.tops.getD i default).next)
theorem mayS_iff {s : Str} (h4 : s.tops.length = 4) (hb : s.tops.any topBad = false) (hok : okC s.coms = true) : mayS s ↔ ∀ i, i < 4 → rowIn s i = true := by
  obtain ⟨hl, hr⟩ := okC_spec hok
  have hrow : ∀ i, i < 4 → (s.coms.getD i []).length = 8 := fun i hi => (hr _ (row_mem (by omega))).1
  have ht : ∀ t ∈ s.tops, t.may := fun t ht => by
    have := List.any_eq_false.1 hb t ht
    simpa [topBad] using this
  constructor
  · intro h i hi
    obtain ⟨h1, h2⟩ := maxL_spec (l := s.coms.getD i []) (by rw [hrow i hi]; omega)
    obtain ⟨k, hk, e⟩ := List.getElem_of_mem h2
    have := h.2.2 i hi k (by rw [← hrow i hi]; exact hk)
    rw [rowIn, decide_eq_true_eq, ← e]
    rwa [getD_lt hk] at this
  · intro h
    refine ⟨⟨h4, ht⟩, hok, fun i hi k hk => ?_⟩
    have h0 := h i hi
    rw [rowIn, decide_eq_true_eq] at h0
    have hk2 : k < (s.coms.getD i []).length := by rw [hrow i hi]; exact hk
    have := (maxL_spec (l := s.coms.getD i []) (by omega)).1 _ (num_mem hk2)
    omega

set_option maxHeartbeats 4000000 in
set_option maxRecDepth 100000 in
theorem strCheck_any {v : Value} {s : Str} {w : World} (h : StrR w v s) (hk : strKeys s) (c : Int) (hc : c = if mayS s then 0 else 8) :
    Calls Try.prog 38 #[v] w fun e w' => e = .returned (.int .i64 c) ∧ Below w.heap.size w w' := by
  have HK := Lib.hid hk
  have HCC := Lib.hid hc
  have HS := Lib.hid h
  obtain ⟨a, cap, b, nc, cc, rfl, hT, hR⟩ := h.shape
  have TT := Lib.hid hT
  have RR := Lib.hid hR
  obtain ⟨n, hn⟩ : ∃ n, n = s.tops.length := ⟨_, rfl⟩
  rw [← hn] at TT HS ⊢
  have HN := Lib.hid hn
  clear hk hc hT hR hn h
  by_cases h4 : n = 4
  · subst h4
    obtain ⟨q, hq⟩ : ∃ q, q = s.tops.any topBad := ⟨_, rfl⟩
    have HQ := Lib.hid hq
    have L := fun W (hW : TopsR W (.slice a 4 cap) s.tops) => contTop_any hW HK.out
    rw [← hq] at L
    have HL := Lib.hid L
    clear L hq
    cases q
    · obtain ⟨d, hd⟩ : ∃ d, d = okC s.coms := ⟨_, rfl⟩
      have HD := Lib.hid hd
      have M := fun W (hW : RowsR W (.slice b nc cc) s.coms) => comCheck_any hW
      rw [← hd] at M
      have HM := Lib.hid M
      clear M hd
      cases d
      · go_enter Try.func38, Try.ntmps38
        go_wp2_with fail
        refine Calls.mono (HL.out _ ?_) ?_
        · exact TT.out.below (by repeat (first | (with_reducible exact Below.refl _ _) | (with_reducible exact Below.refl _ _) | (with_reducible apply Below.drew) | (with_reducible apply below_alloc) | ((with_reducible refine Below.alloc ?_ ?_ _); rotate_left; focus (first | (simp; done) | (simp; omega) | omega)) | ((with_reducible refine Below.setCell ?_ ?_ _); rotate_left; focus (first | (simp; done) | (simp; omega) | omega))))
        rintro e w1 ⟨rfl, hb⟩
        have HB : Hid (Below w.heap.size w _) := below_step (by repeat (first | (with_reducible exact Below.refl _ _) | (with_reducible exact Below.refl _ _) | (with_reducible apply Below.drew) | (with_reducible apply below_alloc) | ((with_reducible refine Below.alloc ?_ ?_ _); rotate_left; focus (first | (simp; done) | (simp; omega) | omega)) | ((with_reducible refine Below.setCell ?_ ?_ _); rotate_left; focus (first | (simp; done) | (simp; omega) | omega)))) hb
        have P : Blk _ (w.heap.size) _ _ := Blk.step (by repeat (first | ((with_reducible apply Blk.new); focus (first | rfl | (simp; done) | (simp; omega))) | (with_reducible apply Blk.drew) | (with_reducible apply Blk.alloc) | (with_reducible apply Blk.set_) | ((with_reducible apply Blk.far); rotate_left; focus (first | (simp; done) | (simp; omega) | omega)))) hb
        obtain ⟨p0, p1, pz⟩ := cells2 P
        have pl := Blk.lt P
        have HP := Lib.hid P
        clear P
        clear hb
        go_wp2_with fail
        refine Calls.mono (HM.out _ ?_) ?_
        · exact RR.out.below (by repeat (first | (with_reducible exact HB.out) | (with_reducible exact Below.refl _ _) | (with_reducible apply Below.drew) | (with_reducible apply below_alloc) | ((with_reducible refine Below.alloc ?_ ?_ _); rotate_left; focus (first | (simp; done) | (simp; omega) | omega)) | ((with_reducible refine Below.setCell ?_ ?_ _); rotate_left; focus (first | (simp; done) | (simp; omega) | omega))))
        rintro e w2 ⟨rfl, hb⟩
        replace HB : Hid (Below w.heap.size w _) := below_step (by repeat (first | (with_reducible exact HB.out) | (with_reducible exact Below.refl _ _) | (with_reducible apply Below.drew) | (with_reducible apply below_alloc) | ((with_reducible refine Below.alloc ?_ ?_ _); rotate_left; focus (first | (simp; done) | (simp; omega) | omega)) | ((with_reducible refine Below.setCell ?_ ?_ _); rotate_left; focus (first | (simp; done) | (simp; omega) | omega)))) hb
        clear hb
        go_wp2_with fail
        go_ret
        refine ⟨?_, HB.out⟩
        rw [HCC.out, if_neg (fun hm => by have := hm.2.1; rw [← HD.out] at this; cases this)]
        rfl
      · have M2 := HM.out
        simp only [if_true] at M2
        clear HM
        have HM := Lib.hid M2
        clear M2
        have h4c : s.coms.length = 4 := (okC_spec HD.out.symm).1
        obtain ⟨⟨hnc, hcap2, hmx2⟩, hrows⟩ := RR.out.at_
        obtain rfl : nc = 4 := by omega
        obtain ⟨gr, ro, hbr, hrow⟩ := hrows (by omega)
        obtain ⟨_, hcapt, hmxt, _, htop⟩ : ∃ x : Unit, 4 ≤ cap ∧ cap ≤ maxLen ∧ True ∧ ∃ g off, a = some ⟨g, off, none⟩ ∧ ∀ i, i < 4 → TopAt w g (off + i * 4) (s.tops.getD i default) := by
          obtain ⟨a', cap', hv, h1, h2, _, h3⟩ := TT.out.shape
          rw [← HN.out] at hv h1 h3
          cases hv
          exact ⟨(), h1, h2, trivial, h3 (by omega)⟩
        obtain ⟨gt, to, hbt, htop⟩ := htop
        subst hbr hbt
        have HROW := Lib.hid hrow
        have HTOP := Lib.hid htop
        unfold maxLen at hmx2 hmxt
        have HIFF := Lib.hid (mayS_iff HN.out.symm HQ.out.symm HD.out.symm)
        have HR8 := Lib.hid (show ∀ i, i < 4 → (s.coms.getD i []).length = 8 from fun i hi => ((okC_spec HD.out.symm).2 _ (row_mem (by omega))).1)
        clear hrows hrow htop hnc h4c
        go_enter Try.func38, Try.ntmps38
        go_wp2_with fail
        refine Calls.mono (HL.out _ ?_) ?_
        · exact TT.out.below (by repeat (first | (with_reducible exact Below.refl _ _) | (with_reducible exact Below.refl _ _) | (with_reducible apply Below.drew) | (with_reducible apply below_alloc) | ((with_reducible refine Below.alloc ?_ ?_ _); rotate_left; focus (first | (simp; done) | (simp; omega) | omega)) | ((with_reducible refine Below.setCell ?_ ?_ _); rotate_left; focus (first | (simp; done) | (simp; omega) | omega))))
        rintro e w1 ⟨rfl, hb⟩
        have HB : Hid (Below w.heap.size w _) := below_step (by repeat (first | (with_reducible exact Below.refl _ _) | (with_reducible exact Below.refl _ _) | (with_reducible apply Below.drew) | (with_reducible apply below_alloc) | ((with_reducible refine Below.alloc ?_ ?_ _); rotate_left; focus (first | (simp; done) | (simp; omega) | omega)) | ((with_reducible refine Below.setCell ?_ ?_ _); rotate_left; focus (first | (simp; done) | (simp; omega) | omega)))) hb
        have P : Blk _ (w.heap.size) _ _ := Blk.step (by repeat (first | ((with_reducible apply Blk.new); focus (first | rfl | (simp; done) | (simp; omega))) | (with_reducible apply Blk.drew) | (with_reducible apply Blk.alloc) | (with_reducible apply Blk.set_) | ((with_reducible apply Blk.far); rotate_left; focus (first | (simp; done) | (simp; omega) | omega)))) hb
        obtain ⟨p0, p1, pz⟩ := cells2 P
        have pl := Blk.lt P
        have HP := Lib.hid P
        clear P
        clear hb
        go_wp2_with fail
        refine Calls.mono (HM.out _ ?_) ?_
        · exact RR.out.below (by repeat (first | (with_reducible exact HB.out) | (with_reducible exact Below.refl _ _) | (with_reducible apply Below.drew) | (with_reducible apply below_alloc) | ((with_reducible refine Below.alloc ?_ ?_ _); rotate_left; focus (first | (simp; done) | (simp; omega) | omega)) | ((with_reducible refine Below.setCell ?_ ?_ _); rotate_left; focus (first | (simp; done) | (simp; omega) | omega))))
        rintro e w2 ⟨rfl, hb⟩
        replace HB : Hid (Below w.heap.size w _) := below_step (by repeat (first | (with_reducible exact HB.out) | (with_reducible exact Below.refl _ _) | (with_reducible apply Below.drew) | (with_reducible apply below_alloc) | ((with_reducible refine Below.alloc ?_ ?_ _); rotate_left; focus (first | (simp; done) | (simp; omega) | omega)) | ((with_reducible refine Below.setCell ?_ ?_ _); rotate_left; focus (first | (simp; done) | (simp; omega) | omega)))) hb
        clear p0 p1 pz pl
        replace HP : Hid (Blk _ (w.heap.size) _ _) := Blk.step (by repeat (first | (with_reducible exact HP.out) | ((with_reducible apply Blk.new); focus (first | rfl | (simp; done) | (simp; omega))) | (with_reducible apply Blk.drew) | (with_reducible apply Blk.alloc) | (with_reducible apply Blk.set_) | ((with_reducible apply Blk.far); rotate_left; focus (first | (simp; done) | (simp; omega) | omega)))) hb
        obtain ⟨p0, p1, pz⟩ := cells2 HP.out
        have pl := Blk.lt HP.out
        clear hb
        go_wp2_with fail
        go_loopg [25] 4 (fun g i wr => ∃ k : Nat, k ≤ 4 ∧ g = 4 - k ∧ i = .int .i64 (k : Int) ∧ Hid (∀ j, j < k → rowIn s j = true) ∧ Hid (Below w.heap.size w wr) ∧ Hid (Blk wr w.heap.size 58 [.slice (some ⟨gt, to, none⟩) 4 cap, .slice (some ⟨gr, ro, none⟩) 4 cc]))
        case atStart => exact ⟨0, by omega, rfl, rfl, (fun j hj => absurd hj (Nat.not_lt_zero _)), HB, HP⟩
        case round =>
          clear HB HP p0 p1 pz pl
          obtain ⟨k, hk, rfl, rfl, hall, HB, HP⟩ := hrel
          obtain ⟨p0, p1, pz⟩ := cells2 HP.out
          have pl := HP.out.lt
          by_cases hlt : k < 4
          · have hk0 : (0 : Int) ≤ (k : Int) := by omega
            have hk1 : (k : Int) < 4 := by omega
            obtain ⟨ra, rcap, r0, hrs⟩ := (HROW.out k hlt).keep HB.out
            obtain ⟨ea, ecap, ⟨⟨⟨_, c1⟩, _⟩, _⟩, _⟩ := (HTOP.out k hlt).keep HB.out
            rw [HR8.out k hlt] at r0 hrs
            have HRS := Lib.hid hrs
            have hgt : gt < wr.heap.size := World.block_lt_of_cell? wr _ c1
            have hgr : gr < wr.heap.size := World.block_lt_of_cell? wr _ r0
            obtain ⟨mx, hmx⟩ : ∃ mx, mx = maxL (s.coms.getD k []) := ⟨_, rfl⟩
            obtain ⟨nx, hnx⟩ : ∃ nx, nx = (s.tops.getD k default).next := ⟨_, rfl⟩
            rw [← hnx] at c1
            have HIN := Lib.hid (show rowIn s k = decide (mx ≤ nx) by rw [hmx, hnx]; rfl)
            have HMAX := Lib.hid (show ∀ W, Below wr.heap.size wr W → Calls Try.prog 76 #[.slice ra 8 rcap] W fun e w' => e = .returned (.int .i64 mx) ∧ Below W.heap.size W w' from fun W hW => by
              rw [hmx]
              refine Calls.mono (maxInt_any (l := s.coms.getD k []) ?_ (by rw [HR8.out k hlt]; omega)) ?_
              · exact hrs.below (fun _ => rfl) hW
              · rintro e w' ⟨rfl, rfl⟩
                exact ⟨rfl, Below.refl _ _⟩)
            clear hrs hmx hnx
            by_cases hgt2 : nx < mx
            · have HGT := Lib.hid hgt2
              go_wp2_with fail
              refine wp_region_below (by kernel_rfl) (by kernel_rfl) ?_
              repeat
                with_reducible refine wpQuiet_step (fun K hK => ?_)
                first
                  | refine quiet_not (by rfl) (hK _ ?_)
                  | refine quiet_any (by rfl) ?_
                    apply Exists.intro
                    refine ⟨fun wq hq => ?_, hK _ ?_⟩
                    · obtain ⟨qc, _⟩ := bcell hq.out
                      go_simp
                      first
                        | done
                        | (with_reducible rfl)
                        | ((go_at_call 76; exact call_in hq.out (HMAX.out _ hq.out)))
                clear hK K
                simp only [Act.put, List.setIfInBounds_toArray, List.set_cons_zero, List.set_cons_succ]
              refine wpQuiet_nil ?_
              rintro w4 hb
              replace HB : Hid (Below w.heap.size w _) := below_step (by repeat (first | (with_reducible exact HB.out) | (with_reducible exact Below.refl _ _) | (with_reducible apply Below.drew) | (with_reducible apply below_alloc) | ((with_reducible refine Below.alloc ?_ ?_ _); rotate_left; focus (first | (simp; done) | (simp; omega) | omega)) | ((with_reducible refine Below.setCell ?_ ?_ _); rotate_left; focus (first | (simp; done) | (simp; omega) | omega)))) hb
              clear hb
              go_wp2_with fail
              go_ret
              refine ⟨?_, HB.out⟩
              rw [HCC.out, if_neg (fun hm => by have h0 := HIFF.out.1 hm k hlt; rw [HIN.out, decide_eq_true_eq] at h0; have := HGT.out; omega)]
              rfl
            · have HGT := Lib.hid hgt2
              go_wp2_with fail
              refine wp_region_below (by kernel_rfl) (by kernel_rfl) ?_
              repeat
                with_reducible refine wpQuiet_step (fun K hK => ?_)
                first
                  | refine quiet_not (by rfl) (hK _ ?_)
                  | refine quiet_any (by rfl) ?_
                    apply Exists.intro
                    refine ⟨fun wq hq => ?_, hK _ ?_⟩
                    · obtain ⟨qc, _⟩ := bcell hq.out
                      go_simp
                      first
                        | done
                        | (with_reducible rfl)
                        | ((go_at_call 76; exact call_in hq.out (HMAX.out _ hq.out)))
                clear hK K
                simp only [Act.put, List.setIfInBounds_toArray, List.set_cons_zero, List.set_cons_succ]
              refine wpQuiet_nil ?_
              rintro w4 hb
              replace HB : Hid (Below w.heap.size w _) := below_step (by repeat (first | (with_reducible exact HB.out) | (with_reducible exact Below.refl _ _) | (with_reducible apply Below.drew) | (with_reducible apply below_alloc) | ((with_reducible refine Below.alloc ?_ ?_ _); rotate_left; focus (first | (simp; done) | (simp; omega) | omega)) | ((with_reducible refine Below.setCell ?_ ?_ _); rotate_left; focus (first | (simp; done) | (simp; omega) | omega)))) hb
              clear p0 p1 pz pl
              replace HP : Hid (Blk _ (w.heap.size) _ _) := Blk.step (by repeat (first | (with_reducible exact HP.out) | ((with_reducible apply Blk.new); focus (first | rfl | (simp; done) | (simp; omega))) | (with_reducible apply Blk.drew) | (with_reducible apply Blk.alloc) | (with_reducible apply Blk.set_) | ((with_reducible apply Blk.far); rotate_left; focus (first | (simp; done) | (simp; omega) | omega)))) hb
              obtain ⟨p0, p1, pz⟩ := cells2 HP.out
              have pl := Blk.lt HP.out
              clear hb
              go_wp2_with fail
              go_roundg (4 - (k + 1))
              case measure => omega
              case rel =>
                refine ⟨k + 1, by omega, rfl, by go_num, fun j hj => ?_, HB, HP⟩
                by_cases hjk : j < k
                · exact hall.out j hjk
                · obtain rfl : j = k := by omega
                  rw [HIN.out, decide_eq_true_eq]
                  have := HGT.out
                  omega
          · obtain rfl : k = 4 := by omega
            go_wp2_with fail
            go_ret
            refine ⟨?_, HB.out⟩
            rw [HCC.out, if_pos (HIFF.out.2 hall.out)]
            rfl
    · go_enter Try.func38, Try.ntmps38
      go_wp2_with fail
      refine Calls.mono (HL.out _ ?_) ?_
      · exact TT.out.below (by repeat (first | (with_reducible exact Below.refl _ _) | (with_reducible exact Below.refl _ _) | (with_reducible apply Below.drew) | (with_reducible apply below_alloc) | ((with_reducible refine Below.alloc ?_ ?_ _); rotate_left; focus (first | (simp; done) | (simp; omega) | omega)) | ((with_reducible refine Below.setCell ?_ ?_ _); rotate_left; focus (first | (simp; done) | (simp; omega) | omega))))
      rintro e w1 ⟨rfl, hb⟩
      have HB : Hid (Below w.heap.size w _) := below_step (by repeat (first | (with_reducible exact Below.refl _ _) | (with_reducible exact Below.refl _ _) | (with_reducible apply Below.drew) | (with_reducible apply below_alloc) | ((with_reducible refine Below.alloc ?_ ?_ _); rotate_left; focus (first | (simp; done) | (simp; omega) | omega)) | ((with_reducible refine Below.setCell ?_ ?_ _); rotate_left; focus (first | (simp; done) | (simp; omega) | omega)))) hb
      clear hb
      go_wp2_with fail
      go_ret
      refine ⟨?_, HB.out⟩
      have hm : ¬ mayS s := fun hm => by
        obtain ⟨t, ht, hb⟩ := List.any_eq_true.1 HQ.out.symm
        have := hm.1.2 t ht
        simp [topBad, this] at hb
      rw [HCC.out, if_neg hm]
      rfl
  · have hd : ((n : Int) != 4) = true := by simp; omega
    have hm : ¬ mayS s := fun hm => h4 (by rw [HN.out]; exact hm.1.1)
    have HM := Lib.hid hm
    clear hm h4
    go_enter Try.func38, Try.ntmps38
    go_wp2_with fail
    go_ret
    refine ⟨by rw [HCC.out, if_neg HM.out]; rfl, ?_⟩
    repeat (first | (with_reducible exact Below.refl _ _) | (with_reducible exact Below.refl _ _) | (with_reducible apply Below.drew) | (with_reducible apply below_alloc) | ((with_reducible refine Below.alloc ?_ ?_ _); rotate_left; focus (first | (simp; done) | (simp; omega) | omega)) | ((with_reducible refine Below.setCell ?_ ?_ _); rotate_left; focus (first | (simp; done) | (simp; omega) | omega)))
end Go.Proofs.Ytblgmjbajnkcdab
/-
  Plain: what is read of a group's topics. No program in sight.
-/
namespace Go.Proofs.Ytblgmjbajnkcdab
open Go.RowKit

def askS (s : Str) (n : Int) : Int := if mayS s then (if 0 ≤ n ∧ n < 4 then 0 else 2) else 8
def topN (s : Str) (n : Int) : Top := s.tops.getD n.toNat default
def fetchS (s : Str) (n o : Int) : Ent × Int := if askS s n = 0 then fetchP (topN s n) o else (default, askS s n)
def farS (s : Str) (n k : Int) : Int × Int := if mayS s then (if askC s.coms n k = 0 then getC s.coms n k else 0, askC s.coms n k) else (0, 8)
def endS (s : Str) (n : Int) : Int × Int := if askS s n = 0 then ((topN s n).next, 0) else (0, askS s n)
theorem askS_zero {s : Str} {n : Int} : askS s n = 0 ↔ mayS s ∧ 0 ≤ n ∧ n < 4 := by
  unfold askS
  by_cases h : mayS s
  · by_cases h2 : 0 ≤ n ∧ n < 4
    · simp [h, h2]
    · rw [if_pos h, if_neg h2]; simp [h]; omega
  · rw [if_neg h]; simp [h]
theorem topN_mem {s : Str} {n : Int} (h : mayS s) (h0 : 0 ≤ n) (h1 : n < 4) : topN s n ∈ s.tops := by
  have := h.1.1
  rw [topN, getD_lt (show n.toNat < s.tops.length by omega)]
  exact List.getElem_mem _
theorem keysS_of_may {s : Str} (h : mayS s) : strKeys s := fun t ht x hx => by
  have hm := h.1.2 t ht
  obtain ⟨i, hi, rfl⟩ := List.getElem_of_mem hx
  have := (hm.2.1 i hi).1.2.2.1
  rw [getD_at hi] at this
  exact Nat.le_trans this (by unfold maxLen; omega)
/-- A topic of a stream that reads. -/
theorem StrR.top {w : World} {a : Option Addr} {n cap : Nat} {l : List Top} (h : TopsR w (.slice a n cap) l) {i : Int} (h0 : 0 ≤ i) (h1 : i < (l.length : Int)) :
    (n = l.length ∧ n ≤ cap ∧ cap ≤ maxLen) ∧ ∃ b off, a = some ⟨b, off, none⟩ ∧ TopAt w b (off + i.toNat * 4) (l.getD i.toNat default) := by
  obtain ⟨a', cap', hv, h2, h3, _, hd⟩ := h.shape
  cases hv
  obtain ⟨b, off, rfl, hd2⟩ := hd (by omega)
  exact ⟨⟨rfl, h2, h3⟩, b, off, rfl, hd2 _ (by omega)⟩
end Go.Proofs.Ytblgmjbajnkcdab
/-
  stream.asked, Fetch, Committed, End. No condition but that the topics read.
-/
namespace Go.Proofs.Ytblgmjbajnkcdab
open Go.RowKit

theorem strAsked_any {v : Value} {s : Str} {w : World} {c : Int} (n : Int) (h : StrR w v s) (hk : strKeys s) (hc : askS s n = c) :
    Calls Try.prog 69 #[v, .int .i64 n] w fun e w' => e = .returned (.int .i64 c) ∧ Below w.heap.size w w' := by
  have HS := Lib.hid h
  have HK := Lib.hid hk
  obtain ⟨a, cap, b, nc, cc, rfl, _, _⟩ := h.shape
  obtain ⟨d, hd⟩ : ∃ d : Int, d = if mayS s then 0 else 8 := ⟨_, rfl⟩
  have HD := Lib.hid hd
  have hall : (d = 8 ∧ c = 8) ∨ (d = 0 ∧ ((n < 0 ∧ c = 2) ∨ (0 ≤ n ∧ 4 ≤ n ∧ c = 2) ∨ (0 ≤ n ∧ n < 4 ∧ c = 0))) := by
    subst hc
    unfold askS
    by_cases hm : mayS s
    · rw [if_pos hm] at hd ⊢
      refine Or.inr ⟨hd, ?_⟩
      split <;> omega
    · rw [if_neg hm] at hd ⊢
      exact Or.inl ⟨hd, rfl⟩
  clear h hk hc hd
  obtain ⟨nt, hnt⟩ : ∃ nt, nt = s.tops.length := ⟨_, rfl⟩
  rw [← hnt] at HS ⊢
  clear hnt
  rcases hall with ⟨rfl, rfl⟩ | ⟨rfl, (⟨h1, rfl⟩ | ⟨h1, h2, rfl⟩ | ⟨h1, h2, rfl⟩)⟩
  all_goals
    go_enter Try.func69, Try.ntmps69
    go_wp2_with fail
    refine Calls.mono (strCheck_any ?_ HK.out _ HD.out) ?_
    · exact HS.out.below (by repeat (first | (with_reducible exact Below.refl _ _) | (with_reducible exact Below.refl _ _) | (with_reducible apply Below.drew) | (with_reducible apply below_alloc) | ((with_reducible refine Below.alloc ?_ ?_ _); rotate_left; focus (first | (simp; done) | (simp; omega) | omega)) | ((with_reducible refine Below.setCell ?_ ?_ _); rotate_left; focus (first | (simp; done) | (simp; omega) | omega))))
    rintro e w1 ⟨rfl, hb⟩
    have HB : Hid (Below w.heap.size w _) := below_step (by repeat (first | (with_reducible exact Below.refl _ _) | (with_reducible exact Below.refl _ _) | (with_reducible apply Below.drew) | (with_reducible apply below_alloc) | ((with_reducible refine Below.alloc ?_ ?_ _); rotate_left; focus (first | (simp; done) | (simp; omega) | omega)) | ((with_reducible refine Below.setCell ?_ ?_ _); rotate_left; focus (first | (simp; done) | (simp; omega) | omega)))) hb
    clear hb
    go_wp2_with fail
    go_ret
    exact ⟨rfl, HB.out⟩

/-- How the walk takes a stream apart: its slices, its topics' place, a topic. -/
theorem strEnd_any {v : Value} {s : Str} {w : World} {x y : Int} (n : Int) (h : StrR w v s) (hk : strKeys s) (hu : endS s n = (x, y)) :
    Calls Try.prog 37 #[v, .int .i64 n] w fun e w' => e = .returned (.tuple #[.int .i64 x, .int .i64 y]) ∧ Below w.heap.size w w' := by
  have HS := Lib.hid h
  have HK := Lib.hid hk
  obtain ⟨a, cap, b, nc, cc, rfl, hT, _⟩ := h.shape
  obtain ⟨nt, hnt⟩ : ∃ nt, nt = s.tops.length := ⟨_, rfl⟩
  rw [← hnt] at HS hT ⊢
  by_cases ha : askS s n = 0
  · rw [endS, if_pos ha] at hu
    cases hu
    have HA := Lib.hid ha
    obtain ⟨hm, h0, h1⟩ := askS_zero.1 ha
    have h4 := hm.1.1
    obtain rfl : nt = 4 := by omega
    obtain ⟨⟨-, hcap, hmx⟩, g, off, rfl, ea, ecap, ⟨⟨⟨_, c1⟩, _⟩, _⟩, _⟩ := StrR.top hT (i := n) h0 (by omega)
    obtain ⟨nx, hnx⟩ : ∃ nx, nx = (topN s n).next := ⟨_, rfl⟩
    rw [show s.tops.getD n.toNat default = topN s n from rfl, ← hnx] at c1
    rw [← hnx]
    unfold maxLen at hmx
    clear h hk hT hnt ha hm h4 hnx
    go_enter Try.func37, Try.ntmps37
    go_wp2_with fail
    refine Calls.mono (strAsked_any n ?_ HK.out HA.out) ?_
    · exact HS.out.below (by repeat (first | (with_reducible exact Below.refl _ _) | (with_reducible exact Below.refl _ _) | (with_reducible apply Below.drew) | (with_reducible apply below_alloc) | ((with_reducible refine Below.alloc ?_ ?_ _); rotate_left; focus (first | (simp; done) | (simp; omega) | omega)) | ((with_reducible refine Below.setCell ?_ ?_ _); rotate_left; focus (first | (simp; done) | (simp; omega) | omega))))
    rintro e w1 ⟨rfl, hb⟩
    have HB : Hid (Below w.heap.size w _) := below_step (by repeat (first | (with_reducible exact Below.refl _ _) | (with_reducible exact Below.refl _ _) | (with_reducible apply Below.drew) | (with_reducible apply below_alloc) | ((with_reducible refine Below.alloc ?_ ?_ _); rotate_left; focus (first | (simp; done) | (simp; omega) | omega)) | ((with_reducible refine Below.setCell ?_ ?_ _); rotate_left; focus (first | (simp; done) | (simp; omega) | omega)))) hb
    have P : Blk _ (w.heap.size) _ _ := Blk.step (by repeat (first | ((with_reducible apply Blk.new); focus (first | rfl | (simp; done) | (simp; omega))) | (with_reducible apply Blk.drew) | (with_reducible apply Blk.alloc) | (with_reducible apply Blk.set_) | ((with_reducible apply Blk.far); rotate_left; focus (first | (simp; done) | (simp; omega) | omega)))) hb
    obtain ⟨p0, p1, pz⟩ := cells2 P
    have pl := Blk.lt P
    have HP := Lib.hid P
    clear P
    have d1 := keep HB.out c1
    clear hb c1
    go_wp2_with fail
    go_ret2
    exact ⟨rfl, HB.out⟩
  · rw [endS, if_neg ha] at hu
    injection hu with hx hy
    subst hx
    have HA := Lib.hid hy
    have hd : (y != 0) = true := by rw [← hy]; simpa using ha
    clear h hk hT hnt ha hy
    go_enter Try.func37, Try.ntmps37
    go_wp2_with fail
    refine Calls.mono (strAsked_any n ?_ HK.out HA.out) ?_
    · exact HS.out.below (by repeat (first | (with_reducible exact Below.refl _ _) | (with_reducible exact Below.refl _ _) | (with_reducible apply Below.drew) | (with_reducible apply below_alloc) | ((with_reducible refine Below.alloc ?_ ?_ _); rotate_left; focus (first | (simp; done) | (simp; omega) | omega)) | ((with_reducible refine Below.setCell ?_ ?_ _); rotate_left; focus (first | (simp; done) | (simp; omega) | omega))))
    rintro e w1 ⟨rfl, hb⟩
    have HB : Hid (Below w.heap.size w _) := below_step (by repeat (first | (with_reducible exact Below.refl _ _) | (with_reducible exact Below.refl _ _) | (with_reducible apply Below.drew) | (with_reducible apply below_alloc) | ((with_reducible refine Below.alloc ?_ ?_ _); rotate_left; focus (first | (simp; done) | (simp; omega) | omega)) | ((with_reducible refine Below.setCell ?_ ?_ _); rotate_left; focus (first | (simp; done) | (simp; omega) | omega)))) hb
    clear hb
    go_wp2_with fail
    go_ret2
    exact ⟨rfl, HB.out⟩

theorem strFar_any {v : Value} {s : Str} {w : World} {x y : Int} (n k : Int) (h : StrR w v s) (hk : strKeys s) (hu : farS s n k = (x, y)) :
    Calls Try.prog 36 #[v, .int .i64 n, .int .i64 k] w fun e w' => e = .returned (.tuple #[.int .i64 x, .int .i64 y]) ∧ Below w.heap.size w w' := by
  have HS := Lib.hid h
  have HK := Lib.hid hk
  obtain ⟨a, cap, b, nc, cc, rfl, _, hR⟩ := h.shape
  have RR := Lib.hid hR
  obtain ⟨nt, hnt⟩ : ∃ nt, nt = s.tops.length := ⟨_, rfl⟩
  rw [← hnt] at HS ⊢
  by_cases hm : mayS s
  · rw [farS, if_pos hm] at hu
    injection hu with hx hy
    have HG := Lib.hid (show ∀ W, RowsR W (.slice b nc cc) s.coms → Calls Try.prog 71 #[.slice b nc cc, .int .i64 n, .int .i64 k] W fun e w' => e = .returned (.tuple #[.int .i64 x, .int .i64 y]) ∧ Below W.heap.size W w' from fun W hW => by
      have := get_any n k hW
      rw [hx, hy] at this
      exact this)
    have HM := Lib.hid (show (0 : Int) = if mayS s then 0 else 8 by rw [if_pos hm])
    clear h hk hR hnt hm hx hy
    go_enter Try.func36, Try.ntmps36
    go_wp2_with fail
    refine Calls.mono (strCheck_any ?_ HK.out _ HM.out) ?_
    · exact HS.out.below (by repeat (first | (with_reducible exact Below.refl _ _) | (with_reducible exact Below.refl _ _) | (with_reducible apply Below.drew) | (with_reducible apply below_alloc) | ((with_reducible refine Below.alloc ?_ ?_ _); rotate_left; focus (first | (simp; done) | (simp; omega) | omega)) | ((with_reducible refine Below.setCell ?_ ?_ _); rotate_left; focus (first | (simp; done) | (simp; omega) | omega))))
    rintro e w1 ⟨rfl, hb⟩
    have HB : Hid (Below w.heap.size w _) := below_step (by repeat (first | (with_reducible exact Below.refl _ _) | (with_reducible exact Below.refl _ _) | (with_reducible apply Below.drew) | (with_reducible apply below_alloc) | ((with_reducible refine Below.alloc ?_ ?_ _); rotate_left; focus (first | (simp; done) | (simp; omega) | omega)) | ((with_reducible refine Below.setCell ?_ ?_ _); rotate_left; focus (first | (simp; done) | (simp; omega) | omega)))) hb
    have P : Blk _ (w.heap.size) _ _ := Blk.step (by repeat (first | ((with_reducible apply Blk.new); focus (first | rfl | (simp; done) | (simp; omega))) | (with_reducible apply Blk.drew) | (with_reducible apply Blk.alloc) | (with_reducible apply Blk.set_) | ((with_reducible apply Blk.far); rotate_left; focus (first | (simp; done) | (simp; omega) | omega)))) hb
    obtain ⟨p0, p1, pz⟩ := cells2 P
    have pl := Blk.lt P
    have HP := Lib.hid P
    clear P
    clear hb
    go_wp2_with fail
    refine Calls.mono (HG.out _ (RR.out.below HB.out)) ?_
    rintro e w2 ⟨rfl, hb⟩
    replace HB : Hid (Below w.heap.size w _) := below_step (by repeat (first | (with_reducible exact HB.out) | (with_reducible exact Below.refl _ _) | (with_reducible apply Below.drew) | (with_reducible apply below_alloc) | ((with_reducible refine Below.alloc ?_ ?_ _); rotate_left; focus (first | (simp; done) | (simp; omega) | omega)) | ((with_reducible refine Below.setCell ?_ ?_ _); rotate_left; focus (first | (simp; done) | (simp; omega) | omega)))) hb
    clear hb
    go_wp2_with fail
    go_ret2
    exact ⟨rfl, HB.out⟩
  · rw [farS, if_neg hm] at hu
    cases hu
    have HM := Lib.hid (show (8 : Int) = if mayS s then 0 else 8 by rw [if_neg hm])
    clear h hk hR hnt hm
    go_enter Try.func36, Try.ntmps36
    go_wp2_with fail
    refine Calls.mono (strCheck_any ?_ HK.out _ HM.out) ?_
    · exact HS.out.below (by repeat (first | (with_reducible exact Below.refl _ _) | (with_reducible exact Below.refl _ _) | (with_reducible apply Below.drew) | (with_reducible apply below_alloc) | ((with_reducible refine Below.alloc ?_ ?_ _); rotate_left; focus (first | (simp; done) | (simp; omega) | omega)) | ((with_reducible refine Below.setCell ?_ ?_ _); rotate_left; focus (first | (simp; done) | (simp; omega) | omega))))
    rintro e w1 ⟨rfl, hb⟩
    have HB : Hid (Below w.heap.size w _) := below_step (by repeat (first | (with_reducible exact Below.refl _ _) | (with_reducible exact Below.refl _ _) | (with_reducible apply Below.drew) | (with_reducible apply below_alloc) | ((with_reducible refine Below.alloc ?_ ?_ _); rotate_left; focus (first | (simp; done) | (simp; omega) | omega)) | ((with_reducible refine Below.setCell ?_ ?_ _); rotate_left; focus (first | (simp; done) | (simp; omega) | omega)))) hb
    clear hb
    go_wp2_with fail
    go_ret2
    exact ⟨rfl, HB.out⟩

set_option maxRecDepth 100000 in
theorem strFetch_any {v : Value} {s : Str} {w : World} {x : Ent} {y : Int} (n o : Int) (h : StrR w v s) (hk : strKeys s) (hu : fetchS s n o = (x, y)) :
    Calls Try.prog 35 #[v, .int .i64 n, .int .i64 o] w (EntEnd x y w) := by
  have HS := Lib.hid h
  have HK := Lib.hid hk
  obtain ⟨a, cap, b, nc, cc, rfl, hT, _⟩ := h.shape
  obtain ⟨nt, hnt⟩ : ∃ nt, nt = s.tops.length := ⟨_, rfl⟩
  rw [← hnt] at HS hT ⊢
  by_cases ha : askS s n = 0
  · rw [fetchS, if_pos ha] at hu
    have HF := Lib.hid hu
    have HA := Lib.hid ha
    obtain ⟨hm, h0, h1⟩ := askS_zero.1 ha
    have h4 := hm.1.1
    have HKT := Lib.hid (hk _ (topN_mem hm h0 h1))
    obtain rfl : nt = 4 := by omega
    obtain ⟨⟨-, hcap, hmx⟩, g, off, rfl, hat⟩ := StrR.top hT (i := n) h0 (by omega)
    rw [show s.tops.getD n.toNat default = topN s n from rfl] at hat
    obtain ⟨t, ht⟩ : ∃ t, t = topN s n := ⟨_, rfl⟩
    rw [← ht] at hat HF HKT
    unfold maxLen at hmx
    have HAT := Lib.hid hat
    clear h hk hT hnt ha hm h4 hu ht hat
    go_enter Try.func35, Try.ntmps35
    go_wp2_with fail
    refine Calls.mono (strAsked_any n ?_ HK.out HA.out) ?_
    · exact HS.out.below (by repeat (first | (with_reducible exact Below.refl _ _) | (with_reducible exact Below.refl _ _) | (with_reducible apply Below.drew) | (with_reducible apply below_alloc) | ((with_reducible refine Below.alloc ?_ ?_ _); rotate_left; focus (first | (simp; done) | (simp; omega) | omega)) | ((with_reducible refine Below.setCell ?_ ?_ _); rotate_left; focus (first | (simp; done) | (simp; omega) | omega))))
    rintro e w1 ⟨rfl, hb⟩
    have HB : Hid (Below w.heap.size w _) := below_step (by repeat (first | (with_reducible exact Below.refl _ _) | (with_reducible exact Below.refl _ _) | (with_reducible apply Below.drew) | (with_reducible apply below_alloc) | ((with_reducible refine Below.alloc ?_ ?_ _); rotate_left; focus (first | (simp; done) | (simp; omega) | omega)) | ((with_reducible refine Below.setCell ?_ ?_ _); rotate_left; focus (first | (simp; done) | (simp; omega) | omega)))) hb
    have P : Blk _ (w.heap.size) _ _ := Blk.step (by repeat (first | ((with_reducible apply Blk.new); focus (first | rfl | (simp; done) | (simp; omega))) | (with_reducible apply Blk.drew) | (with_reducible apply Blk.alloc) | (with_reducible apply Blk.set_) | ((with_reducible apply Blk.far); rotate_left; focus (first | (simp; done) | (simp; omega) | omega)))) hb
    obtain ⟨p0, p1, pz⟩ := cells2 P
    have pl := Blk.lt P
    have HP := Lib.hid P
    clear P
    have R : Blk _ (w.heap.size + 1) _ _ := Blk.step (by repeat (first | ((with_reducible apply Blk.new); focus (first | rfl | (simp; done) | (simp; omega))) | (with_reducible apply Blk.drew) | (with_reducible apply Blk.alloc) | (with_reducible apply Blk.set_) | ((with_reducible apply Blk.far); rotate_left; focus (first | (simp; done) | (simp; omega) | omega)))) hb
    obtain ⟨r0, r1, r2, r3, rz⟩ := cells4 R
    have rl := Blk.lt R
    have HR := Lib.hid R
    clear R
    obtain ⟨ea, ecap, ⟨⟨⟨c0, c1⟩, c2⟩, c3⟩, hTT⟩ := HAT.out.keep HB.out
    have T := Lib.hid hTT
    clear hb hTT
    go_wp2_with fail
    refine Calls.mono (fetch_any o ?_ HKT.out HF.out) ?_
    · exact T.out.below (by repeat (first | (with_reducible exact Below.refl _ _) | (with_reducible exact Below.refl _ _) | (with_reducible apply Below.drew) | (with_reducible apply below_alloc) | ((with_reducible refine Below.alloc ?_ ?_ _); rotate_left; focus (first | (simp; done) | (simp; omega) | omega)) | ((with_reducible refine Below.setCell ?_ ?_ _); rotate_left; focus (first | (simp; done) | (simp; omega) | omega))))
    rintro e w2 ⟨rfl, hb⟩
    replace HB : Hid (Below w.heap.size w _) := below_step (by repeat (first | (with_reducible exact HB.out) | (with_reducible exact Below.refl _ _) | (with_reducible apply Below.drew) | (with_reducible apply below_alloc) | ((with_reducible refine Below.alloc ?_ ?_ _); rotate_left; focus (first | (simp; done) | (simp; omega) | omega)) | ((with_reducible refine Below.setCell ?_ ?_ _); rotate_left; focus (first | (simp; done) | (simp; omega) | omega)))) hb
    clear r0 r1 r2 r3 rz rl
    replace HR : Hid (Blk _ (w.heap.size + 1) _ _) := Blk.step (by repeat (first | (with_reducible exact HR.out) | ((with_reducible apply Blk.new); focus (first | rfl | (simp; done) | (simp; omega))) | (with_reducible apply Blk.drew) | (with_reducible apply Blk.alloc) | (with_reducible apply Blk.set_) | ((with_reducible apply Blk.far); rotate_left; focus (first | (simp; done) | (simp; omega) | omega)))) hb
    obtain ⟨r0, r1, r2, r3, rz⟩ := cells4 HR.out
    have rl := Blk.lt HR.out
    clear hb
    go_wp2_with fail
    refine bodyPost_ret (v := .tuple #[.agg #[.int .i64 x.off, .int .i64 x.id, .string x.key, .string x.body], .int .i64 y]) (by simp [results, Try.results35, go_sem, r0, r1, r2, r3]) rfl ⟨rfl, ?_⟩
    repeat (first | (with_reducible exact HB.out) | (with_reducible exact Below.refl _ _) | (with_reducible apply Below.drew) | (with_reducible apply below_alloc) | ((with_reducible refine Below.alloc ?_ ?_ _); rotate_left; focus (first | (simp; done) | (simp; omega) | omega)) | ((with_reducible refine Below.setCell ?_ ?_ _); rotate_left; focus (first | (simp; done) | (simp; omega) | omega)))
  · rw [fetchS, if_neg ha] at hu
    injection hu with hx hy
    subst hx
    have HA := Lib.hid hy
    have hd : (y != 0) = true := by rw [← hy]; simpa using ha
    clear h hk hT hnt ha hy
    go_enter Try.func35, Try.ntmps35
    go_wp2_with fail
    refine Calls.mono (strAsked_any n ?_ HK.out HA.out) ?_
    · exact HS.out.below (by repeat (first | (with_reducible exact Below.refl _ _) | (with_reducible exact Below.refl _ _) | (with_reducible apply Below.drew) | (with_reducible apply below_alloc) | ((with_reducible refine Below.alloc ?_ ?_ _); rotate_left; focus (first | (simp; done) | (simp; omega) | omega)) | ((with_reducible refine Below.setCell ?_ ?_ _); rotate_left; focus (first | (simp; done) | (simp; omega) | omega))))
    rintro e w1 ⟨rfl, hb⟩
    have HB : Hid (Below w.heap.size w _) := below_step (by repeat (first | (with_reducible exact Below.refl _ _) | (with_reducible exact Below.refl _ _) | (with_reducible apply Below.drew) | (with_reducible apply below_alloc) | ((with_reducible refine Below.alloc ?_ ?_ _); rotate_left; focus (first | (simp; done) | (simp; omega) | omega)) | ((with_reducible refine Below.setCell ?_ ?_ _); rotate_left; focus (first | (simp; done) | (simp; omega) | omega)))) hb
    have R : Blk _ (w.heap.size + 1) _ _ := Blk.step (by repeat (first | ((with_reducible apply Blk.new); focus (first | rfl | (simp; done) | (simp; omega))) | (with_reducible apply Blk.drew) | (with_reducible apply Blk.alloc) | (with_reducible apply Blk.set_) | ((with_reducible apply Blk.far); rotate_left; focus (first | (simp; done) | (simp; omega) | omega)))) hb
    obtain ⟨r0, r1, r2, r3, rz⟩ := cells4 R
    have rl := Blk.lt R
    have HR := Lib.hid R
    clear R
    clear hb
    go_wp2_with fail
    refine bodyPost_ret (v := .tuple #[.agg #[.int .i64 0, .int .i64 0, .string ⟨#[]⟩, .string ⟨#[]⟩], .int .i64 y]) (by simp [results, Try.results35, go_sem, r0, r1, r2, r3]) rfl ⟨rfl, ?_⟩
    repeat (first | (with_reducible exact HB.out) | (with_reducible exact Below.refl _ _) | (with_reducible apply Below.drew) | (with_reducible apply below_alloc) | ((with_reducible refine Below.alloc ?_ ?_ _); rotate_left; focus (first | (simp; done) | (simp; omega) | omega)) | ((with_reducible refine Below.setCell ?_ ?_ _); rotate_left; focus (first | (simp; done) | (simp; omega) | omega)))
end Go.Proofs.Ytblgmjbajnkcdab
/-
  stream.Same and the document's. No condition but that the topics read.
-/
namespace Go.Proofs.Ytblgmjbajnkcdab
open Go.RowKit

theorem tops_ext {l l' : List Top} (h : l.length = l'.length) (hall : ∀ j, j < l.length → l.getD j default = l'.getD j default) : l = l' := list_eq_of default h hall
theorem str_ext {s s' : Str} : s = s' ↔ s.tops = s'.tops ∧ s.coms = s'.coms := by
  cases s; cases s'; simp

set_option maxHeartbeats 4000000 in
set_option maxRecDepth 100000 in
theorem refStrSame_any {v v' : Value} {s s' : Str} {w : World} {z : Bool} (h : StrR w v s) (h' : StrR w v' s') (hz : z = true ↔ s = s') :
    Calls Try.prog 24 #[v, v'] w fun e w' => e = .returned (.bool z) ∧ Below w.heap.size w w' := by
  have HZ := Lib.hid hz
  obtain ⟨a, cap, b, nc, cc, rfl, hT, hR⟩ := h.shape
  obtain ⟨a', cap', b', nc', cc', rfl, hT', hR'⟩ := h'.shape
  obtain ⟨aa, ccap, hv, hcap, hmx, _, hd⟩ := hT.shape
  cases hv
  obtain ⟨aa', ccap', hv', hcap', hmx', _, hd'⟩ := hT'.shape
  cases hv'
  have HD := Lib.hid hd
  have HD' := Lib.hid hd'
  have RR := Lib.hid hR
  have RR' := Lib.hid hR'
  obtain ⟨n, hn⟩ : ∃ n, n = s.tops.length := ⟨_, rfl⟩
  obtain ⟨n', hn'⟩ : ∃ n, n = s'.tops.length := ⟨_, rfl⟩
  rw [← hn] at HD hcap ⊢
  rw [← hn'] at HD' hcap' ⊢
  have HN := Lib.hid hn
  have HN' := Lib.hid hn'
  unfold maxLen at hmx hmx'
  have nn0 : (n : Int) ≤ 9223372036854775807 := by omega
  clear hz hT hR hT' hR' hd hd' hn hn' h h'
  by_cases hnn : n = n'
  · subst hnn
    have nn : ((n : Int) != (n : Int)) = false := by simp
    obtain ⟨d, hd⟩ : ∃ d, d = decide (s.coms = s'.coms) := ⟨_, rfl⟩
    have HDD := Lib.hid hd
    have M := fun W (hW : RowsR W (.slice b nc cc) s.coms) (hW' : RowsR W (.slice b' nc' cc') s'.coms) => refSameC_any hW hW'
    rw [← hd] at M
    have HM := Lib.hid M
    clear M hd
    cases d
    · go_enter Try.func24, Try.ntmps24
      go_wp2_with fail
      refine Calls.mono (HM.out _ ?_ ?_) ?_
      · exact RR.out.below (by repeat (first | (with_reducible exact Below.refl _ _) | (with_reducible exact Below.refl _ _) | (with_reducible apply Below.drew) | (with_reducible apply below_alloc) | ((with_reducible refine Below.alloc ?_ ?_ _); rotate_left; focus (first | (simp; done) | (simp; omega) | omega)) | ((with_reducible refine Below.setCell ?_ ?_ _); rotate_left; focus (first | (simp; done) | (simp; omega) | omega))))
      · exact RR'.out.below (by repeat (first | (with_reducible exact Below.refl _ _) | (with_reducible exact Below.refl _ _) | (with_reducible apply Below.drew) | (with_reducible apply below_alloc) | ((with_reducible refine Below.alloc ?_ ?_ _); rotate_left; focus (first | (simp; done) | (simp; omega) | omega)) | ((with_reducible refine Below.setCell ?_ ?_ _); rotate_left; focus (first | (simp; done) | (simp; omega) | omega))))
      rintro e w1 ⟨rfl, hb⟩
      have HB : Hid (Below w.heap.size w _) := below_step (by repeat (first | (with_reducible exact Below.refl _ _) | (with_reducible exact Below.refl _ _) | (with_reducible apply Below.drew) | (with_reducible apply below_alloc) | ((with_reducible refine Below.alloc ?_ ?_ _); rotate_left; focus (first | (simp; done) | (simp; omega) | omega)) | ((with_reducible refine Below.setCell ?_ ?_ _); rotate_left; focus (first | (simp; done) | (simp; omega) | omega)))) hb
      clear hb
      go_wp2_with fail
      go_ret
      have e : z = false := by
        cases hzz : z with
        | false => rfl
        | true => exact absurd (str_ext.1 (HZ.out.1 hzz)).2 (of_decide_eq_false HDD.out.symm)
      exact ⟨by rw [e]; rfl, HB.out⟩
    · go_enter Try.func24, Try.ntmps24
      go_wp2_with fail
      refine Calls.mono (HM.out _ ?_ ?_) ?_
      · exact RR.out.below (by repeat (first | (with_reducible exact Below.refl _ _) | (with_reducible exact Below.refl _ _) | (with_reducible apply Below.drew) | (with_reducible apply below_alloc) | ((with_reducible refine Below.alloc ?_ ?_ _); rotate_left; focus (first | (simp; done) | (simp; omega) | omega)) | ((with_reducible refine Below.setCell ?_ ?_ _); rotate_left; focus (first | (simp; done) | (simp; omega) | omega))))
      · exact RR'.out.below (by repeat (first | (with_reducible exact Below.refl _ _) | (with_reducible exact Below.refl _ _) | (with_reducible apply Below.drew) | (with_reducible apply below_alloc) | ((with_reducible refine Below.alloc ?_ ?_ _); rotate_left; focus (first | (simp; done) | (simp; omega) | omega)) | ((with_reducible refine Below.setCell ?_ ?_ _); rotate_left; focus (first | (simp; done) | (simp; omega) | omega))))
      rintro e w1 ⟨rfl, hb⟩
      have HB : Hid (Below w.heap.size w _) := below_step (by repeat (first | (with_reducible exact Below.refl _ _) | (with_reducible exact Below.refl _ _) | (with_reducible apply Below.drew) | (with_reducible apply below_alloc) | ((with_reducible refine Below.alloc ?_ ?_ _); rotate_left; focus (first | (simp; done) | (simp; omega) | omega)) | ((with_reducible refine Below.setCell ?_ ?_ _); rotate_left; focus (first | (simp; done) | (simp; omega) | omega)))) hb
      have P : Blk _ (w.heap.size) _ _ := Blk.step (by repeat (first | ((with_reducible apply Blk.new); focus (first | rfl | (simp; done) | (simp; omega))) | (with_reducible apply Blk.drew) | (with_reducible apply Blk.alloc) | (with_reducible apply Blk.set_) | ((with_reducible apply Blk.far); rotate_left; focus (first | (simp; done) | (simp; omega) | omega)))) hb
      obtain ⟨p0, p1, pz⟩ := cells2 P
      have pl := Blk.lt P
      have HP := Lib.hid P
      clear P
      have Q : Blk _ (w.heap.size + 1) _ _ := Blk.step (by repeat (first | ((with_reducible apply Blk.new); focus (first | rfl | (simp; done) | (simp; omega))) | (with_reducible apply Blk.drew) | (with_reducible apply Blk.alloc) | (with_reducible apply Blk.set_) | ((with_reducible apply Blk.far); rotate_left; focus (first | (simp; done) | (simp; omega) | omega)))) hb
      obtain ⟨q0, q1, qz⟩ := cells2 Q
      have ql := Blk.lt Q
      have HQ := Lib.hid Q
      clear Q
      clear hb
      go_wp2_with fail
      go_loopg [5] n (fun g i wr => ∃ k : Nat, k ≤ n ∧ g = n - k ∧ i = .int .i64 (k : Int) ∧ Hid (∀ j, j < k → s.tops.getD j default = s'.tops.getD j default) ∧ Hid (Below w.heap.size w wr) ∧
        Hid (Blk wr w.heap.size 58 [.slice a n cap, .slice b nc cc]) ∧ Hid (Blk wr (w.heap.size + 1) 58 [.slice a' n cap', .slice b' nc' cc']))
      case atStart => exact ⟨0, Nat.zero_le _, rfl, rfl, (fun j hj => absurd hj (Nat.not_lt_zero _)), HB, HP, HQ⟩
      case round =>
        clear HB HP HQ p0 p1 pz pl q0 q1 qz ql
        obtain ⟨k, hk, rfl, rfl, hall, HB, HP, HQ⟩ := hrel
        obtain ⟨p0, p1, pz⟩ := cells2 HP.out
        obtain ⟨q0, q1, qz⟩ := cells2 HQ.out
        have pl := HP.out.lt
        have ql := HQ.out.lt
        by_cases hlt : k < n
        · have hk0 : (0 : Int) ≤ (k : Int) := by omega
          have hk1 : (k : Int) < (n : Int) := by omega
          obtain ⟨g, off, ha, hat⟩ := HD.out (by omega)
          subst ha
          obtain ⟨g', off', ha', hat'⟩ := HD'.out (by omega)
          subst ha'
          obtain ⟨ea, ecap, ⟨⟨⟨c0, c1⟩, c2⟩, c3⟩, hTT⟩ := (hat k hlt).keep HB.out
          obtain ⟨ea', ecap', ⟨⟨⟨d0, d1⟩, d2⟩, d3⟩, hTT'⟩ := (hat' k hlt).keep HB.out
          have T := Lib.hid hTT
          have TQ := Lib.hid hTT'
          have hg1 : g < wr.heap.size := World.block_lt_of_cell? wr _ c0
          have hg2 : g' < wr.heap.size := World.block_lt_of_cell? wr _ d0
          obtain ⟨t, ht⟩ : ∃ t, t = s.tops.getD k default := ⟨_, rfl⟩
          obtain ⟨t', ht'⟩ : ∃ t, t = s'.tops.getD k default := ⟨_, rfl⟩
          rw [← ht] at c0 c1 c2 c3 T
          rw [← ht'] at d0 d1 d2 d3 TQ
          have HT := Lib.hid ht
          have HT' := Lib.hid ht'
          obtain ⟨q, hq⟩ : ∃ q, q = sameT t t' := ⟨_, rfl⟩
          have HQS := Lib.hid hq
          clear hat hat' hTT hTT' ht ht' hq
          cases q
          all_goals
            go_wp2_with fail
            refine wp_region_below (by kernel_rfl) (by kernel_rfl) ?_
            repeat
              with_reducible refine wpQuiet_step (fun K hK => ?_)
              first
                | refine quiet_not (by rfl) (hK _ ?_)
                | refine quiet_any (by rfl) ?_
                  apply Exists.intro
                  refine ⟨fun wq hq => ?_, hK _ ?_⟩
                  · obtain ⟨qc, _⟩ := bcell hq.out
                    go_simp
                    first
                      | done
                      | (with_reducible rfl)
                      | ((go_at_call 56; exact call_in hq.out (refSame_q (topR_step T.out (by repeat (first | (with_reducible exact Below.refl _ _) | (with_reducible exact Below.refl _ _) | (with_reducible apply Below.drew) | (with_reducible apply below_alloc) | ((with_reducible refine Below.alloc ?_ ?_ _); rotate_left; focus (first | (simp; done) | (simp; omega) | omega)) | ((with_reducible refine Below.setCell ?_ ?_ _); rotate_left; focus (first | (simp; done) | (simp; omega) | omega)))) hq.out) (topR_step TQ.out (by repeat (first | (with_reducible exact Below.refl _ _) | (with_reducible exact Below.refl _ _) | (with_reducible apply Below.drew) | (with_reducible apply below_alloc) | ((with_reducible refine Below.alloc ?_ ?_ _); rotate_left; focus (first | (simp; done) | (simp; omega) | omega)) | ((with_reducible refine Below.setCell ?_ ?_ _); rotate_left; focus (first | (simp; done) | (simp; omega) | omega)))) hq.out) HQS.out)))
              clear hK K
              simp only [Act.put, List.setIfInBounds_toArray, List.set_cons_zero, List.set_cons_succ]
            refine wpQuiet_nil ?_
            rintro w4 hb
            replace HB : Hid (Below w.heap.size w _) := below_step (by repeat (first | (with_reducible exact HB.out) | (with_reducible exact Below.refl _ _) | (with_reducible apply Below.drew) | (with_reducible apply below_alloc) | ((with_reducible refine Below.alloc ?_ ?_ _); rotate_left; focus (first | (simp; done) | (simp; omega) | omega)) | ((with_reducible refine Below.setCell ?_ ?_ _); rotate_left; focus (first | (simp; done) | (simp; omega) | omega)))) hb
            clear p0 p1 pz pl
            replace HP : Hid (Blk _ (w.heap.size) _ _) := Blk.step (by repeat (first | (with_reducible exact HP.out) | ((with_reducible apply Blk.new); focus (first | rfl | (simp; done) | (simp; omega))) | (with_reducible apply Blk.drew) | (with_reducible apply Blk.alloc) | (with_reducible apply Blk.set_) | ((with_reducible apply Blk.far); rotate_left; focus (first | (simp; done) | (simp; omega) | omega)))) hb
            obtain ⟨p0, p1, pz⟩ := cells2 HP.out
            have pl := Blk.lt HP.out
            clear q0 q1 qz ql
            replace HQ : Hid (Blk _ (w.heap.size + 1) _ _) := Blk.step (by repeat (first | (with_reducible exact HQ.out) | ((with_reducible apply Blk.new); focus (first | rfl | (simp; done) | (simp; omega))) | (with_reducible apply Blk.drew) | (with_reducible apply Blk.alloc) | (with_reducible apply Blk.set_) | ((with_reducible apply Blk.far); rotate_left; focus (first | (simp; done) | (simp; omega) | omega)))) hb
            obtain ⟨q0, q1, qz⟩ := cells2 HQ.out
            have ql := Blk.lt HQ.out
            clear hb
            go_wp2_with fail
          · go_ret
            have e : z = false := by
              cases hzz : z with
              | false => rfl
              | true =>
                have h0 := HQS.out
                rw [HT.out, HT'.out, (str_ext.1 (HZ.out.1 hzz)).1, (sameT_iff _ _).2 rfl] at h0
                cases h0
            exact ⟨by rw [e]; rfl, HB.out⟩
          · go_roundg (n - (k + 1))
            case measure => omega
            case rel =>
              refine ⟨k + 1, by omega, rfl, by go_num, fun j hj => ?_, HB, HP, HQ⟩
              by_cases hjk : j < k
              · exact hall.out j hjk
              · obtain rfl : j = k := by omega
                rw [← HT.out, ← HT'.out]
                exact (sameT_iff _ _).1 HQS.out.symm
        · obtain rfl : k = n := by omega
          have hlt' : ¬ (k : Int) < (k : Int) := by omega
          go_wp2_with fail
          go_ret
          have e : z = true := HZ.out.2 (str_ext.2 ⟨tops_ext (by rw [← HN.out, HN'.out]) (by rw [← HN.out]; exact hall.out), of_decide_eq_true HDD.out.symm⟩)
          exact ⟨by rw [e]; rfl, HB.out⟩
  · have hd : ((n : Int) != (n' : Int)) = true := by simp; omega
    have HNE := Lib.hid hnn
    clear hnn
    go_enter Try.func24, Try.ntmps24
    go_wp2_with fail
    go_ret
    have e : z = false := by
      cases hzz : z with
      | false => rfl
      | true => exact absurd (by rw [HN.out, HN'.out, (str_ext.1 (HZ.out.1 hzz)).1]) HNE.out
    refine ⟨by rw [e]; rfl, ?_⟩
    repeat (first | (with_reducible exact Below.refl _ _) | (with_reducible exact Below.refl _ _) | (with_reducible apply Below.drew) | (with_reducible apply below_alloc) | ((with_reducible refine Below.alloc ?_ ?_ _); rotate_left; focus (first | (simp; done) | (simp; omega) | omega)) | ((with_reducible refine Below.setCell ?_ ?_ _); rotate_left; focus (first | (simp; done) | (simp; omega) | omega)))

set_option maxHeartbeats 4000000 in
set_option maxRecDepth 100000 in
theorem eqTop_any {v v' : Value} {l l' : List Top} {w : World} {z : Bool} (h : TopsR w v l) (h' : TopsR w v' l') (hz : z = true ↔ l = l') :
    Calls Try.prog 64 #[v, v', .func (.func 65) #[] #[]] w fun e w' => e = .returned (.bool z) ∧ Below w.heap.size w w' := by
  have HZ := Lib.hid hz
  obtain ⟨a, cap, rfl, hcap, hmx, _, hd⟩ := h.shape
  obtain ⟨a', cap', rfl, hcap', hmx', _, hd'⟩ := h'.shape
  have HD := Lib.hid hd
  have HD' := Lib.hid hd'
  obtain ⟨n, hn⟩ : ∃ n, n = l.length := ⟨_, rfl⟩
  obtain ⟨n', hn'⟩ : ∃ n, n = l'.length := ⟨_, rfl⟩
  rw [← hn] at HD hcap ⊢
  rw [← hn'] at HD' hcap' ⊢
  have HN := Lib.hid hn
  have HN' := Lib.hid hn'
  unfold maxLen at hmx hmx'
  have nn0 : (n : Int) ≤ 9223372036854775807 := by omega
  clear hz hd hd' hn hn' h h'
  by_cases hnn : n = n'
  · subst hnn
    have nn : ((n : Int) != (n : Int)) = false := by simp
    go_enter Try.func64, Try.ntmps64
    go_wp2_with fail
    go_loopg [17] n (fun g i wr => ∃ k : Nat, k ≤ n ∧ g = n - k ∧ i = .int .i64 (k : Int) ∧ Hid (∀ j, j < k → l.getD j default = l'.getD j default) ∧ Hid (Below w.heap.size w wr))
    case atStart => exact ⟨0, Nat.zero_le _, rfl, rfl, (fun j hj => absurd hj (Nat.not_lt_zero _)), Below.refl _ _⟩
    case round =>
      obtain ⟨k, hk, rfl, rfl, hall, HB⟩ := hrel
      by_cases hlt : k < n
      · have hk0 : (0 : Int) ≤ (k : Int) := by omega
        have hk1 : (k : Int) < (n : Int) := by omega
        obtain ⟨g, off, ha, hat⟩ := HD.out (by omega)
        subst ha
        obtain ⟨g', off', ha', hat'⟩ := HD'.out (by omega)
        subst ha'
        obtain ⟨ea, ecap, ⟨⟨⟨c0, c1⟩, c2⟩, c3⟩, hTT⟩ := (hat k hlt).keep HB.out
        obtain ⟨ea', ecap', ⟨⟨⟨d0, d1⟩, d2⟩, d3⟩, hTT'⟩ := (hat' k hlt).keep HB.out
        have T := Lib.hid hTT
        have TQ := Lib.hid hTT'
        have hg1 : g < wr.heap.size := World.block_lt_of_cell? wr _ c0
        have hg2 : g' < wr.heap.size := World.block_lt_of_cell? wr _ d0
        obtain ⟨t, ht⟩ : ∃ t, t = l.getD k default := ⟨_, rfl⟩
        obtain ⟨t', ht'⟩ : ∃ t, t = l'.getD k default := ⟨_, rfl⟩
        rw [← ht] at c0 c1 c2 c3 T
        rw [← ht'] at d0 d1 d2 d3 TQ
        have HT := Lib.hid ht
        have HT' := Lib.hid ht'
        obtain ⟨q, hq⟩ : ∃ q, q = sameT t t' := ⟨_, rfl⟩
        have HQS := Lib.hid hq
        clear hat hat' hTT hTT' ht ht' hq
        cases q
        all_goals
          go_wp2_with fail
          refine Calls.mono (topSame_q ?_ ?_ HQS.out) ?_
          · exact T.out.below (by repeat (first | (with_reducible exact Below.refl _ _) | (with_reducible exact Below.refl _ _) | (with_reducible apply Below.drew) | (with_reducible apply below_alloc) | ((with_reducible refine Below.alloc ?_ ?_ _); rotate_left; focus (first | (simp; done) | (simp; omega) | omega)) | ((with_reducible refine Below.setCell ?_ ?_ _); rotate_left; focus (first | (simp; done) | (simp; omega) | omega))))
          · exact TQ.out.below (by repeat (first | (with_reducible exact Below.refl _ _) | (with_reducible exact Below.refl _ _) | (with_reducible apply Below.drew) | (with_reducible apply below_alloc) | ((with_reducible refine Below.alloc ?_ ?_ _); rotate_left; focus (first | (simp; done) | (simp; omega) | omega)) | ((with_reducible refine Below.setCell ?_ ?_ _); rotate_left; focus (first | (simp; done) | (simp; omega) | omega))))
          rintro e w4 ⟨rfl, hb⟩
          replace HB : Hid (Below w.heap.size w _) := below_step (by repeat (first | (with_reducible exact HB.out) | (with_reducible exact Below.refl _ _) | (with_reducible apply Below.drew) | (with_reducible apply below_alloc) | ((with_reducible refine Below.alloc ?_ ?_ _); rotate_left; focus (first | (simp; done) | (simp; omega) | omega)) | ((with_reducible refine Below.setCell ?_ ?_ _); rotate_left; focus (first | (simp; done) | (simp; omega) | omega)))) hb
          clear hb c0 c1 c2 c3 d0 d1 d2 d3
          go_wp2_with fail
        · go_ret
          have e : z = false := by
            cases hzz : z with
            | false => rfl
            | true =>
              have h0 := HQS.out
              rw [HT.out, HT'.out, HZ.out.1 hzz, (sameT_iff _ _).2 rfl] at h0
              cases h0
          exact ⟨by rw [e]; rfl, HB.out⟩
        · go_roundg (n - (k + 1))
          case measure => omega
          case rel =>
            refine ⟨k + 1, by omega, rfl, by go_num, fun j hj => ?_, HB⟩
            by_cases hjk : j < k
            · exact hall.out j hjk
            · obtain rfl : j = k := by omega
              rw [← HT.out, ← HT'.out]
              exact (sameT_iff _ _).1 HQS.out.symm
      · obtain rfl : k = n := by omega
        have hlt' : ¬ (k : Int) < (k : Int) := by omega
        go_wp2_with fail
        go_ret
        have e : z = true := HZ.out.2 (tops_ext (by rw [← HN.out, HN'.out]) (by rw [← HN.out]; exact hall.out))
        exact ⟨by rw [e]; rfl, HB.out⟩
  · have hd : ((n : Int) != (n' : Int)) = true := by simp; omega
    have HNE := Lib.hid hnn
    clear hnn
    go_enter Try.func64, Try.ntmps64
    go_wp2_with fail
    go_ret
    have e : z = false := by
      cases hzz : z with
      | false => rfl
      | true => exact absurd (by rw [HN.out, HN'.out, HZ.out.1 hzz]) HNE.out
    exact ⟨by rw [e]; rfl, Below.refl _ _⟩

open Classical in
theorem strSame_any {v v' : Value} {s s' : Str} {w : World} {z : Bool} (h : StrR w v s) (h' : StrR w v' s') (hz : z = true ↔ s = s') :
    Calls Try.prog 33 #[v, v'] w fun e w' => e = .returned (.bool z) ∧ Below w.heap.size w w' := by
  have HZ := Lib.hid hz
  obtain ⟨a, cap, b, nc, cc, rfl, hT, hR⟩ := h.shape
  obtain ⟨a', cap', b', nc', cc', rfl, hT', hR'⟩ := h'.shape
  obtain ⟨q, hq⟩ : ∃ q : Bool, q = true ↔ s.tops = s'.tops := ⟨decide (s.tops = s'.tops), by simp⟩
  obtain ⟨d, hd⟩ : ∃ d, d = decide (s.coms = s'.coms) := ⟨_, rfl⟩
  have HQT := Lib.hid hq.1
  have HQF := Lib.hid (show s.tops = s'.tops → q = true from hq.2)
  have HE := Lib.hid (fun W (hW : TopsR W (.slice a s.tops.length cap) s.tops) (hW' : TopsR W (.slice a' s'.tops.length cap') s'.tops) => eqTop_any hW hW' hq)
  have HDD := Lib.hid hd
  have M := fun W (hW : RowsR W (.slice b nc cc) s.coms) (hW' : RowsR W (.slice b' nc' cc') s'.coms) => same_any hW hW'
  rw [← hd] at M
  have HM := Lib.hid M
  have TT := Lib.hid hT
  have TT' := Lib.hid hT'
  have RR := Lib.hid hR
  have RR' := Lib.hid hR'
  obtain ⟨n, hn⟩ : ∃ n, n = s.tops.length := ⟨_, rfl⟩
  obtain ⟨n', hn'⟩ : ∃ n, n = s'.tops.length := ⟨_, rfl⟩
  rw [← hn] at TT HE ⊢
  rw [← hn'] at TT' HE ⊢
  clear M hd hz hT hT' hR hR' hq hn hn' h h'
  cases q
  · go_enter Try.func33, Try.ntmps33
    go_wp2_with fail
    refine Calls.mono (HE.out _ ?_ ?_) ?_
    · exact TT.out.below (by repeat (first | (with_reducible exact Below.refl _ _) | (with_reducible exact Below.refl _ _) | (with_reducible apply Below.drew) | (with_reducible apply below_alloc) | ((with_reducible refine Below.alloc ?_ ?_ _); rotate_left; focus (first | (simp; done) | (simp; omega) | omega)) | ((with_reducible refine Below.setCell ?_ ?_ _); rotate_left; focus (first | (simp; done) | (simp; omega) | omega))))
    · exact TT'.out.below (by repeat (first | (with_reducible exact Below.refl _ _) | (with_reducible exact Below.refl _ _) | (with_reducible apply Below.drew) | (with_reducible apply below_alloc) | ((with_reducible refine Below.alloc ?_ ?_ _); rotate_left; focus (first | (simp; done) | (simp; omega) | omega)) | ((with_reducible refine Below.setCell ?_ ?_ _); rotate_left; focus (first | (simp; done) | (simp; omega) | omega))))
    rintro e w1 ⟨rfl, hb⟩
    have HB : Hid (Below w.heap.size w _) := below_step (by repeat (first | (with_reducible exact Below.refl _ _) | (with_reducible exact Below.refl _ _) | (with_reducible apply Below.drew) | (with_reducible apply below_alloc) | ((with_reducible refine Below.alloc ?_ ?_ _); rotate_left; focus (first | (simp; done) | (simp; omega) | omega)) | ((with_reducible refine Below.setCell ?_ ?_ _); rotate_left; focus (first | (simp; done) | (simp; omega) | omega)))) hb
    clear hb
    go_wp2_with fail
    go_ret
    have e : z = false := by
      cases hzz : z with
      | false => rfl
      | true => have := HQF.out (str_ext.1 (HZ.out.1 hzz)).1; simp at this
    exact ⟨by rw [e]; rfl, HB.out⟩
  · cases d
    all_goals
      go_enter Try.func33, Try.ntmps33
      go_wp2_with fail
      refine Calls.mono (HE.out _ ?_ ?_) ?_
      · exact TT.out.below (by repeat (first | (with_reducible exact Below.refl _ _) | (with_reducible exact Below.refl _ _) | (with_reducible apply Below.drew) | (with_reducible apply below_alloc) | ((with_reducible refine Below.alloc ?_ ?_ _); rotate_left; focus (first | (simp; done) | (simp; omega) | omega)) | ((with_reducible refine Below.setCell ?_ ?_ _); rotate_left; focus (first | (simp; done) | (simp; omega) | omega))))
      · exact TT'.out.below (by repeat (first | (with_reducible exact Below.refl _ _) | (with_reducible exact Below.refl _ _) | (with_reducible apply Below.drew) | (with_reducible apply below_alloc) | ((with_reducible refine Below.alloc ?_ ?_ _); rotate_left; focus (first | (simp; done) | (simp; omega) | omega)) | ((with_reducible refine Below.setCell ?_ ?_ _); rotate_left; focus (first | (simp; done) | (simp; omega) | omega))))
      rintro e w1 ⟨rfl, hb⟩
      have HB : Hid (Below w.heap.size w _) := below_step (by repeat (first | (with_reducible exact Below.refl _ _) | (with_reducible exact Below.refl _ _) | (with_reducible apply Below.drew) | (with_reducible apply below_alloc) | ((with_reducible refine Below.alloc ?_ ?_ _); rotate_left; focus (first | (simp; done) | (simp; omega) | omega)) | ((with_reducible refine Below.setCell ?_ ?_ _); rotate_left; focus (first | (simp; done) | (simp; omega) | omega)))) hb
      have P : Blk _ (w.heap.size) _ _ := Blk.step (by repeat (first | ((with_reducible apply Blk.new); focus (first | rfl | (simp; done) | (simp; omega))) | (with_reducible apply Blk.drew) | (with_reducible apply Blk.alloc) | (with_reducible apply Blk.set_) | ((with_reducible apply Blk.far); rotate_left; focus (first | (simp; done) | (simp; omega) | omega)))) hb
      obtain ⟨p0, p1, pz⟩ := cells2 P
      have pl := Blk.lt P
      have HP := Lib.hid P
      clear P
      have Q2 : Blk _ (w.heap.size + 1) _ _ := Blk.step (by repeat (first | ((with_reducible apply Blk.new); focus (first | rfl | (simp; done) | (simp; omega))) | (with_reducible apply Blk.drew) | (with_reducible apply Blk.alloc) | (with_reducible apply Blk.set_) | ((with_reducible apply Blk.far); rotate_left; focus (first | (simp; done) | (simp; omega) | omega)))) hb
      obtain ⟨q20, q21, q2z⟩ := cells2 Q2
      have q2l := Blk.lt Q2
      have HQ2 := Lib.hid Q2
      clear Q2
      clear hb
      go_wp2_with fail
      refine Calls.mono (HM.out _ ?_ ?_) ?_
      · exact RR.out.below HB.out
      · exact RR'.out.below HB.out
      rintro e w2 ⟨rfl, hb⟩
      replace HB : Hid (Below w.heap.size w _) := below_step (by repeat (first | (with_reducible exact HB.out) | (with_reducible exact Below.refl _ _) | (with_reducible apply Below.drew) | (with_reducible apply below_alloc) | ((with_reducible refine Below.alloc ?_ ?_ _); rotate_left; focus (first | (simp; done) | (simp; omega) | omega)) | ((with_reducible refine Below.setCell ?_ ?_ _); rotate_left; focus (first | (simp; done) | (simp; omega) | omega)))) hb
      clear hb
      go_wp2_with fail
      go_ret
    · have e : z = false := by
        cases hzz : z with
        | false => rfl
        | true => exact absurd (str_ext.1 (HZ.out.1 hzz)).2 (of_decide_eq_false HDD.out.symm)
      exact ⟨by rw [e]; rfl, HB.out⟩
    · have e : z = true := HZ.out.2 (str_ext.2 ⟨HQT.out (by trivial), of_decide_eq_true HDD.out.symm⟩)
      exact ⟨by rw [e]; rfl, HB.out⟩
end Go.Proofs.Ytblgmjbajnkcdab
/-
  stream.Twin. No condition but that the topics read and are not great.
-/
namespace Go.Proofs.Ytblgmjbajnkcdab
open Go.RowKit

/-- Not great. -/
def fewS (s : Str) : Prop := s.tops.length ≤ 1000000 ∧ (∀ t ∈ s.tops, t.ents.length ≤ 1000000) ∧ few s.coms
def StrEnd (s : Str) (w : World) (e : Ending) (w' : World) : Prop := ∃ ta tc, e = .returned (.agg #[ta, tc]) ∧ OwnS w' w.heap.size (.agg #[ta, tc]) s ∧ Below w.heap.size w w'

theorem OwnT.snoc2 {w w' : World} {B n : Nat} {v v' u : Value} {l : List Top} {t : Top} {pl : List (Value × Top)} (h1 : pl.map (·.2) = l) (h2 : w.ownsRow B 70 4 v n (pl.flatMap topCells)) (h3 : ∀ p ∈ pl, OwnE w B p.1 p.2.ents)
    (hu : OwnE w B u t.ents) (hg : w.grownBy w' v.ownBlock) (hv : w'.ownsRow B 70 4 v' (n + 1) (pl.flatMap topCells ++ topCells (u, t))) (hn : n = l.length) : OwnT w' B v' (l ++ [t]) := by
  have hne : ∀ q : Value × Top, OwnE w B q.1 q.2.ents → OwnE w' B q.1 q.2.ents := fun q hq => ownsRow_grown' hq hg (fun k hk => rows_ne hq h2 (by decide) hk)
  refine ⟨pl ++ [(u, t)], by simp [h1], ?_, fun p hp => ?_⟩
  · rw [List.length_append, ← hn]
    simpa [List.flatMap_append] using hv
  · rcases List.mem_append.1 hp with hp | hp
    · exact hne p (h3 p hp)
    · rw [List.mem_singleton.1 hp]
      exact hne (u, t) hu

set_option maxHeartbeats 8000000 in
set_option maxRecDepth 100000 in
theorem strTwin_any {v : Value} {s : Str} {w : World} (h : StrR w v s) (hf : fewS s) : Calls Try.prog 54 #[v] w (StrEnd s w) := by
  obtain ⟨i0, hi, hz0, hz1, hz2⟩ := info_parts info_top
  obtain ⟨hf1, hf2, hf3⟩ := hf
  have HF2 := Lib.hid hf2
  have HF3 := Lib.hid hf3
  obtain ⟨a, cap, b, nc, cc, rfl, hT, hR⟩ := h.shape
  obtain ⟨aa, ccap, hv, hcap, hmx, _, hd⟩ := hT.shape
  cases hv
  have HD := Lib.hid hd
  have RR := Lib.hid hR
  obtain ⟨n, hn⟩ : ∃ n, n = s.tops.length := ⟨_, rfl⟩
  rw [← hn] at HD hcap hf1 ⊢
  have HN := Lib.hid hn
  have nn0 : (n : Int) ≤ 1000000 := by omega
  clear hf2 hf3 hT hR hd hn h hmx
  go_enter Try.func54, Try.ntmps54
  go_wp2_with fail
  refine Calls.mono (twin_any (m := s.coms) ?_ HF3.out) ?_
  · exact RR.out.below (by repeat (first | (with_reducible exact Below.refl _ _) | (with_reducible exact Below.refl _ _) | (with_reducible apply Below.drew) | (with_reducible apply below_alloc) | ((with_reducible refine Below.alloc ?_ ?_ _); rotate_left; focus (first | (simp; done) | (simp; omega) | omega)) | ((with_reducible refine Below.setCell ?_ ?_ _); rotate_left; focus (first | (simp; done) | (simp; omega) | omega))))
  rintro e w1 ⟨vc, rfl, oc, hb⟩
  obtain ⟨ac, nac, cac, rfl⟩ := oc.reads.shape
  have HB : Hid (Below w.heap.size w _) := below_step (by repeat (first | (with_reducible exact Below.refl _ _) | (with_reducible exact Below.refl _ _) | (with_reducible apply Below.drew) | (with_reducible apply below_alloc) | ((with_reducible refine Below.alloc ?_ ?_ _); rotate_left; focus (first | (simp; done) | (simp; omega) | omega)) | ((with_reducible refine Below.setCell ?_ ?_ _); rotate_left; focus (first | (simp; done) | (simp; omega) | omega)))) hb
  have P : Blk _ (w.heap.size) _ _ := Blk.step (by repeat (first | ((with_reducible apply Blk.new); focus (first | rfl | (simp; done) | (simp; omega))) | (with_reducible apply Blk.drew) | (with_reducible apply Blk.alloc) | (with_reducible apply Blk.set_) | ((with_reducible apply Blk.far); rotate_left; focus (first | (simp; done) | (simp; omega) | omega)))) hb
  obtain ⟨p0, p1, pz⟩ := cells2 P
  have pl := Blk.lt P
  have HP := Lib.hid P
  clear P
  have R : Blk _ (w.heap.size + 1) _ _ := Blk.step (by repeat (first | ((with_reducible apply Blk.new); focus (first | rfl | (simp; done) | (simp; omega))) | (with_reducible apply Blk.drew) | (with_reducible apply Blk.alloc) | (with_reducible apply Blk.set_) | ((with_reducible apply Blk.far); rotate_left; focus (first | (simp; done) | (simp; omega) | omega)))) hb
  obtain ⟨r0, r1, rz⟩ := cells2 R
  have rl := Blk.lt R
  have HR := Lib.hid R
  clear R
  have OC : Hid (OwnC w1 (w.heap.size + 2) _ _) := oc.le (by simp)
  have HCL := Lib.hid (show ∀ k, (Value.slice ac nac cac).ownBlock = some k → k < w1.heap.size from fun k hk => (oc.choose_spec.1.lt k hk).2)
  have s1 : w.heap.size + 2 ≤ w1.heap.size := rl
  clear hb oc
  go_wp2_with fail
  go_loopg [13] n (fun g i wr => ∃ (k : Nat) (al : Option Addr) (capl : Nat), k ≤ n ∧ g = n - k ∧ i = .int .i64 (k : Int) ∧ Hid (OwnT wr (w1.heap.size + 1) (.slice al k capl) (s.tops.take k)) ∧ Hid (OwnC wr (w.heap.size + 2) (.slice ac nac cac) s.coms) ∧ Hid (Below w.heap.size w wr) ∧
    Hid (Blk wr (w.heap.size + 1) 58 [.slice none 0 0, .slice none 0 0]) ∧ Hid (Blk wr w1.heap.size 58 [.slice al k capl, .slice ac nac cac]))
  case atStart =>
    refine ⟨0, none, 0, Nat.zero_le _, rfl, rfl, OwnT.nil _ _, OC.out.alloc _, ?_, ?_, ?_⟩
    · show Below _ _ _
      repeat (first | (with_reducible exact HB.out) | (with_reducible exact Below.refl _ _) | (with_reducible apply Below.drew) | (with_reducible apply below_alloc) | ((with_reducible refine Below.alloc ?_ ?_ _); rotate_left; focus (first | (simp; done) | (simp; omega) | omega)) | ((with_reducible refine Below.setCell ?_ ?_ _); rotate_left; focus (first | (simp; done) | (simp; omega) | omega)))
    · show Blk _ _ _ _
      repeat (first | (with_reducible exact HR.out) | ((with_reducible apply Blk.new); focus (first | rfl | (simp; done) | (simp; omega))) | (with_reducible apply Blk.drew) | (with_reducible apply Blk.alloc) | (with_reducible apply Blk.set_) | ((with_reducible apply Blk.far); rotate_left; focus (first | (simp; done) | (simp; omega) | omega)))
    · show Blk _ _ _ _
      exact Blk.new rfl
  case round =>
    clear OC HB HP HR p0 p1 pz pl r0 r1 rz rl
    obtain ⟨k, al, capl, hk, rfl, rfl, OT, OC, HB, HR, HQ⟩ := hrel
    obtain ⟨q0, q1, qz⟩ := cells2 HQ.out
    obtain ⟨r0, r1, rz⟩ := cells2 HR.out
    have ql := HQ.out.lt
    have rl := HR.out.lt
    have hws : w.heap.size < wr.heap.size := by omega
    by_cases hlt : k < n
    · have hk0 : (0 : Int) ≤ (k : Int) := by omega
      have hk1 : (k : Int) < (n : Int) := by omega
      obtain ⟨g, off, ha, hat⟩ := HD.out (by omega)
      subst ha
      obtain ⟨ea, ecap, ⟨⟨⟨c0, c1⟩, c2⟩, c3⟩, hTT⟩ := (hat k hlt).keep HB.out
      have T := Lib.hid hTT
      have hg1 : g < wr.heap.size := World.block_lt_of_cell? wr _ c0
      obtain ⟨x, hx⟩ : ∃ x, x = s.tops.getD k default := ⟨_, rfl⟩
      rw [← hx] at c0 c1 c2 c3 T
      have hkl : k < s.tops.length := by rw [← HN.out]; exact hlt
      have HLX := Lib.hid (show x.ents.length ≤ 1000000 by rw [hx, getD_lt hkl]; exact HF2.out _ (List.getElem_mem hkl))
      have HTK := Lib.hid (show s.tops.take (k + 1) = s.tops.take k ++ [x] by rw [hx, List.take_succ_eq_append_getElem hkl, getD_lt hkl])
      have hlk : (s.tops.take k).length = k := by rw [List.length_take]; omega
      have HLK := Lib.hid hlk
      obtain ⟨pl, hpl, hrow, hent⟩ := OT.out
      rw [hlk] at hrow
      have HROW := Lib.hid hrow
      have HPL := Lib.hid hpl
      have HENT := Lib.hid hent
      clear hat hTT hx hlk hpl hrow hent
      go_wp2_with fail
      go_region_law (first | (go_simp; go_at_call 89; refine (topTwin_any (T.out.below (by repeat (first | (with_reducible exact Below.refl _ _) | (with_reducible exact Below.refl _ _) | (with_reducible apply Below.drew) | (with_reducible apply below_alloc) | ((with_reducible refine Below.alloc ?_ ?_ _); rotate_left; focus (first | (simp; done) | (simp; omega) | omega)) | ((with_reducible refine Below.setCell ?_ ?_ _); rotate_left; focus (first | (simp; done) | (simp; omega) | omega))))) HLX.out).mono ?_; rintro e w4 ⟨a4, c4, rfl, o4, hb⟩; have HQ4 := Lib.hid (Blk.step (Blk.drew (Blk.alloc HQ.out _)) hb); have HX4 := Lib.hid (Blk.step (Blk.drew (Blk.new (w := wr) (t := 70) (cs := [.int .i64 x.base, .int .i64 x.next, .int .i64 x.mark, .slice ea x.ents.length ecap]) rfl)) hb); have HW4 : Hid (Below wr.heap.size wr w4) := below_step (by repeat (first | (with_reducible exact Below.refl _ _) | (with_reducible exact Below.refl _ _) | (with_reducible apply Below.drew) | (with_reducible apply below_alloc) | ((with_reducible refine Below.alloc ?_ ?_ _); rotate_left; focus (first | (simp; done) | (simp; omega) | omega)) | ((with_reducible refine Below.setCell ?_ ?_ _); rotate_left; focus (first | (simp; done) | (simp; omega) | omega)))) hb; have O4 := Lib.hid (own_base (B' := w1.heap.size + 1) o4 (by simp; omega)); have hz4 : wr.heap.size < w4.heap.size := HX4.out.lt; have hy4 : w1.heap.size < w4.heap.size := HQ4.out.lt; obtain ⟨m0, m1, mz⟩ := cells2 HQ4.out; obtain ⟨n0, n1, n2, n3, nz⟩ := cells4 HX4.out; clear hb o4) | (refine step_append_lies _ rfl _ _ 56 rfl (w1.heap.size + 1) 70 i0 _ 4 48 Try.underlying56 hi hz0 hz1 hz2 rfl (by decide) _ k _ rfl ((ownsRow_keep HROW.out HW4.out).alloc _) ⟨w4.heap.size, 0, none⟩ 1 1 (topCells (.slice a4 x.ents.length c4, x)) rfl rfl (news_top _ x rfl) (topCells_one _ _ _ x) (by decide) (by unfold maxLen; omega) (by omega) (by simp; omega) _ rfl ?_; intro g5 cap5 w5 hown hgrow hat5 hlt5; have HQ5 := Lib.hid (Blk.grown (HQ4.out.alloc _) hgrow (fun e => Nat.lt_irrefl _ (HROW.out.lt _ e).1)); obtain ⟨m0, m1, mz⟩ := cells2 HQ5.out))
      all_goals
        have hB5 : w1.heap.size + 1 ≤ w4.heap.size + 1 := by omega
        have OT5 : Hid (OwnT w5 (w1.heap.size + 1) (.slice (some ⟨g5, 0, none⟩) (k + 1) cap5) (s.tops.take (k + 1))) := by
          rw [HTK.out]
          exact OwnT.snoc2 HPL.out ((ownsRow_keep HROW.out HW4.out).alloc _) (fun p hp => own_below (own_below (HENT.out p hp) HW4.out) ((Below.refl _ _).alloc (Nat.le_refl _) _)) (own_below O4.out ((Below.refl _ _).alloc (Nat.le_refl _) _)) hgrow hown HLK.out.symm
        have OC5 := Lib.hid (OwnC.grown (OwnC.alloc (show OwnC w4 _ _ _ from OC.out.keep HW4.out) _) hgrow ((ownsRow_keep HROW.out HW4.out).alloc _) rfl (by decide) (by decide))
        have HB5 : Hid (Below w.heap.size w w5) := Below.grown ((Below.step HB.out HW4.out (by omega)).alloc (by omega) _) hgrow (by simp; omega) (fun j hj => by have := (HROW.out.lt j hj).1; omega)
        have HR5 := Lib.hid (Blk.grown ((HR.out.step HW4.out).alloc _) hgrow (fun e => by have := (HROW.out.lt _ e).1; omega))
        have hl5 : w1.heap.size < w5.heap.size := HQ5.out.lt
        clear hown hgrow
        go_wp2_with fail
        go_roundg (n - (k + 1))
        case measure => omega
        case rel =>
         refine ⟨k + 1, some ⟨g5, 0, none⟩, cap5, by omega, rfl, by go_num, ?_, ?_, ?_, ?_, ?_⟩
         · show OwnT _ _ _ _
           exact OT5.out.far (by omega)
         · exact Lib.hid (OwnC.blk OC5.out HQ5.out (by decide) (by decide))
         · show Below _ _ _
           exact HB5.out.setCell (by show w.heap.size ≤ w1.heap.size; omega) _
         · show Blk _ _ _ _
           exact HR5.out.far (by omega) _
         · show Blk _ _ _ _
           exact HQ5.out.set_ 0 _
    · obtain rfl : k = n := by omega
      have hlt' : ¬ (k : Int) < (k : Int) := by omega
      go_wp2_with fail
      have e : s.tops.take k = s.tops := by rw [HN.out]; exact List.take_length
      have OT6 := OT.out
      rw [e] at OT6
      obtain ⟨t0, t1, -⟩ := cells2 ((HR.out.set_ 0 (.slice al k capl)).set_ 1 (.slice ac nac cac))
      refine bodyPost_ret (v := .agg #[.slice al k capl, .slice ac nac cac]) (by simp [results, Try.results54, go_sem, t0, t1]) rfl ⟨_, _, rfl, ⟨_, _, rfl, ?_, ?_⟩, ?_⟩
      · exact OwnT.le ((OT6.far (by omega)).far (by omega)) (by omega)
      · exact OwnRows.le (OwnC.far (OwnC.far OC.out (by omega)) (by omega)) (by omega)
      · exact (HB.out.setCell (by simp) _).setCell (by simp) _
end Go.Proofs.Ytblgmjbajnkcdab
/-
  stream.New. No condition.
-/
namespace Go.Proofs.Ytblgmjbajnkcdab
open Go.RowKit

def newS : Str := ⟨List.replicate 4 Top.zero, newC⟩

set_option maxHeartbeats 8000000 in
set_option maxRecDepth 100000 in
theorem strNew_any (w : World) : Calls Try.prog 34 #[] w (StrEnd newS w) := by
  obtain ⟨i0, hi, hz0, hz1, hz2⟩ := info_parts info_top
  go_enter Try.func34, Try.ntmps34
  go_wp2_with fail
  refine Calls.mono (comNew_any _) ?_
  rintro e w1 ⟨vc, rfl, oc, hb⟩
  obtain ⟨ac, nac, cac, rfl⟩ := oc.reads.shape
  have HB : Hid (Below w.heap.size w _) := below_step (by repeat (first | (with_reducible exact Below.refl _ _) | (with_reducible exact Below.refl _ _) | (with_reducible apply Below.drew) | (with_reducible apply below_alloc) | ((with_reducible refine Below.alloc ?_ ?_ _); rotate_left; focus (first | (simp; done) | (simp; omega) | omega)) | ((with_reducible refine Below.setCell ?_ ?_ _); rotate_left; focus (first | (simp; done) | (simp; omega) | omega)))) hb
  have R : Blk _ (w.heap.size) _ _ := Blk.step (by repeat (first | ((with_reducible apply Blk.new); focus (first | rfl | (simp; done) | (simp; omega))) | (with_reducible apply Blk.drew) | (with_reducible apply Blk.alloc) | (with_reducible apply Blk.set_) | ((with_reducible apply Blk.far); rotate_left; focus (first | (simp; done) | (simp; omega) | omega)))) hb
  obtain ⟨r0, r1, rz⟩ := cells2 R
  have rl := Blk.lt R
  have HR := Lib.hid R
  clear R
  have OC : Hid (OwnC w1 (w.heap.size + 1) _ _) := oc.le (by simp)
  have s1 : w.heap.size + 1 ≤ w1.heap.size := rl
  clear hb oc
  go_wp2_with fail
  go_loopg [4] 4 (fun g i wr => ∃ (k : Nat) (al : Option Addr) (capl : Nat), k ≤ 4 ∧ g = 4 - k ∧ i = .int .i64 (k : Int) ∧ Hid (OwnT wr (w1.heap.size + 1) (.slice al k capl) (List.replicate k Top.zero)) ∧ Hid (OwnC wr (w.heap.size + 1) (.slice ac nac cac) newC) ∧ Hid (Below w.heap.size w wr) ∧
    Hid (Blk wr w.heap.size 58 [.slice none 0 0, .slice none 0 0]) ∧ Hid (Blk wr w1.heap.size 58 [.slice al k capl, .slice ac nac cac]))
  case atStart =>
    refine ⟨0, none, 0, Nat.zero_le _, rfl, rfl, OwnT.nil _ _, OC.out.alloc _, ?_, ?_, ?_⟩
    · show Below _ _ _
      repeat (first | (with_reducible exact HB.out) | (with_reducible exact Below.refl _ _) | (with_reducible apply Below.drew) | (with_reducible apply below_alloc) | ((with_reducible refine Below.alloc ?_ ?_ _); rotate_left; focus (first | (simp; done) | (simp; omega) | omega)) | ((with_reducible refine Below.setCell ?_ ?_ _); rotate_left; focus (first | (simp; done) | (simp; omega) | omega)))
    · show Blk _ _ _ _
      repeat (first | (with_reducible exact HR.out) | ((with_reducible apply Blk.new); focus (first | rfl | (simp; done) | (simp; omega))) | (with_reducible apply Blk.drew) | (with_reducible apply Blk.alloc) | (with_reducible apply Blk.set_) | ((with_reducible apply Blk.far); rotate_left; focus (first | (simp; done) | (simp; omega) | omega)))
    · show Blk _ _ _ _
      exact Blk.new rfl
  case round =>
    clear OC HB HR r0 r1 rz rl
    obtain ⟨k, al, capl, hk, rfl, rfl, OT, OC, HB, HR, HQ⟩ := hrel
    obtain ⟨q0, q1, qz⟩ := cells2 HQ.out
    obtain ⟨r0, r1, rz⟩ := cells2 HR.out
    have ql := HQ.out.lt
    have rl := HR.out.lt
    by_cases hlt : k < 4
    · have hk0 : (0 : Int) ≤ (k : Int) := by omega
      have hk1 : (k : Int) < 4 := by omega
      have hlk : (List.replicate k Top.zero).length = k := List.length_replicate
      have HLK := Lib.hid hlk
      obtain ⟨ps, hpl, hrow, hent⟩ := OT.out
      rw [hlk] at hrow
      have HROW := Lib.hid hrow
      have HPL := Lib.hid hpl
      have HENT := Lib.hid hent
      clear hlk hpl hrow hent
      go_wp2_with fail
      go_region_law (first | (go_simp; go_at_call 68; refine (new_any _).mono ?_; rintro e w4 ⟨rfl, hb⟩; have HQ4 := Lib.hid (Blk.step (Blk.drew HQ.out) hb); have HW4 : Hid (Below wr.heap.size wr w4) := below_step (by repeat (first | (with_reducible exact Below.refl _ _) | (with_reducible exact Below.refl _ _) | (with_reducible apply Below.drew) | (with_reducible apply below_alloc) | ((with_reducible refine Below.alloc ?_ ?_ _); rotate_left; focus (first | (simp; done) | (simp; omega) | omega)) | ((with_reducible refine Below.setCell ?_ ?_ _); rotate_left; focus (first | (simp; done) | (simp; omega) | omega)))) hb; have hz4 : wr.heap.size ≤ w4.heap.size := HW4.out.size; have hy4 : w1.heap.size < w4.heap.size := HQ4.out.lt; obtain ⟨m0, m1, mz⟩ := cells2 HQ4.out; clear hb) | (refine step_append_lies _ rfl _ _ 56 rfl (w1.heap.size + 1) 70 i0 _ 4 48 Try.underlying56 hi hz0 hz1 hz2 rfl (by decide) _ k _ rfl ((ownsRow_keep HROW.out HW4.out).alloc _) ⟨w4.heap.size, 0, none⟩ 1 1 (topCells (.slice none 0 0, Top.zero)) rfl rfl (news_top _ Top.zero rfl) (topCells_one _ _ _ Top.zero) (by decide) (by unfold maxLen; omega) (by omega) (by simp; omega) _ rfl ?_; intro g5 cap5 w5 hown hgrow hat5 hlt5; have HQ5 := Lib.hid (Blk.grown (HQ4.out.alloc _) hgrow (fun e => Nat.lt_irrefl _ (HROW.out.lt _ e).1)); obtain ⟨m0, m1, mz⟩ := cells2 HQ5.out))
      all_goals
        have OT5 : Hid (OwnT w5 (w1.heap.size + 1) (.slice (some ⟨g5, 0, none⟩) (k + 1) cap5) (List.replicate (k + 1) Top.zero)) := by
          rw [List.replicate_succ']
          exact OwnT.snoc2 HPL.out ((ownsRow_keep HROW.out HW4.out).alloc _) (fun p hp => own_below (own_below (HENT.out p hp) HW4.out) ((Below.refl _ _).alloc (Nat.le_refl _) _)) (World.ownsRow_nil _ _ _ _) hgrow hown HLK.out.symm
        have OC5 := Lib.hid (OwnC.grown (OwnC.alloc (show OwnC w4 _ _ _ from OC.out.keep HW4.out) _) hgrow ((ownsRow_keep HROW.out HW4.out).alloc _) rfl (by decide) (by decide))
        have HB5 : Hid (Below w.heap.size w w5) := Below.grown ((Below.step HB.out HW4.out (by omega)).alloc (by omega) _) hgrow (by simp; omega) (fun j hj => by have := (HROW.out.lt j hj).1; omega)
        have HR5 := Lib.hid (Blk.grown ((HR.out.step HW4.out).alloc _) hgrow (fun e => by have := (HROW.out.lt _ e).1; omega))
        have hl5 : w1.heap.size < w5.heap.size := HQ5.out.lt
        clear hown hgrow
        go_wp2_with fail
        go_roundg (4 - (k + 1))
        case measure => omega
        case rel =>
         refine ⟨k + 1, some ⟨g5, 0, none⟩, cap5, by omega, rfl, by go_num, ?_, ?_, ?_, ?_, ?_⟩
         · show OwnT _ _ _ _
           exact OT5.out.far (by omega)
         · exact Lib.hid (OwnC.blk OC5.out HQ5.out (by decide) (by decide))
         · show Below _ _ _
           exact HB5.out.setCell (by show w.heap.size ≤ w1.heap.size; omega) _
         · show Blk _ _ _ _
           exact HR5.out.far (by omega) _
         · show Blk _ _ _ _
           exact HQ5.out.set_ 0 _
    · obtain rfl : k = 4 := by omega
      go_wp2_with fail
      obtain ⟨t0, t1, -⟩ := cells2 ((HR.out.set_ 0 (.slice al 4 capl)).set_ 1 (.slice ac nac cac))
      refine bodyPost_ret (v := .agg #[.slice al 4 capl, .slice ac nac cac]) (by simp [results, Try.results34, go_sem, t0, t1]) rfl ⟨_, _, rfl, ⟨_, _, rfl, ?_, ?_⟩, ?_⟩
      · exact OwnT.le ((OT.out.far (by omega)).far (by omega)) (by omega)
      · exact OwnRows.le (OwnC.far (OwnC.far OC.out (by omega)) (by omega)) (by omega)
      · exact (HB.out.setCell (by simp) _).setCell (by simp) _
end Go.Proofs.Ytblgmjbajnkcdab
/-
  What is known of a stream that comes in: sizes. No walk in sight.
-/
namespace Go.Proofs.Ytblgmjbajnkcdab
open Go.RowKit

theorem cells_strm : Try.prog.cellsOf 58 = 2 := by kernel_rfl
theorem cells_tops : Try.prog.cellsOf 56 = 1 := by kernel_rfl
theorem cells_rows : Try.prog.cellsOf 23 = 1 := by kernel_rfl
theorem cells_row : Try.prog.cellsOf 43 = 1 := by kernel_rfl
theorem bytes_int : Try.prog.bytesOf 3 = 8 := by kernel_rfl
abbrev FitS (s : Str) : Prop := strFit Try.prog 70 29 43 3 s
theorem fit_sizes {s : Str} (F : FitS s) : ∀ t ∈ s.tops, ∀ x ∈ t.ents, x.key.size ≤ 140737488355328 ∧ x.body.size ≤ 140737488355328 := fun t ht => top_sizes (F.1.1 t ht).1
theorem fit_keys {s : Str} (F : FitS s) : strKeys s := fun t ht => top_keys (F.1.1 t ht).1
theorem fit_rows {s : Str} (F : FitS s) : ∀ r ∈ s.coms, r.length ≤ 17592186044416 := fun r hr => by
  have := (F.2.2 r hr).1
  rw [bytes_int] at this
  unfold reachBytes at this
  omega
end Go.Proofs.Ytblgmjbajnkcdab
/-
  stream.with. The topic that is put in is the caller's own.
-/
namespace Go.Proofs.Ytblgmjbajnkcdab
open Go.RowKit

def OwnEnd (s : Str) (B : Nat) (w : World) (e : Ending) (w' : World) : Prop := ∃ ta tc, e = .returned (.agg #[ta, tc]) ∧ OwnS w' B (.agg #[ta, tc]) s ∧ Below w.heap.size w w'

set_option maxHeartbeats 8000000 in
set_option maxRecDepth 100000 in
theorem with_any {v : Value} {s : Str} {w : World} {B : Nat} {t : Top} {ua : Option Addr} {uc : Nat} (i : Nat) (h : StrR w v s) (hf : fewS s) (hi : i < s.tops.length) (hu : OwnE w B (.slice ua t.ents.length uc) t.ents) (hB : B ≤ w.heap.size) :
    Calls Try.prog 78 #[v, .int .i64 (i : Int), .agg #[.int .i64 t.base, .int .i64 t.next, .int .i64 t.mark, .slice ua t.ents.length uc]] w (OwnEnd ⟨s.tops.set i t, s.coms⟩ B w) := by
  have S := Lib.hid h
  have HF := Lib.hid hf
  have HI := Lib.hid hi
  have HU := Lib.hid hu
  obtain ⟨a, cap, b, nc, cc, rfl, -, -⟩ := h.shape
  have hn := hf.1
  clear hu h hf
  go_enter Try.func78, Try.ntmps78
  go_wp2_with fail
  refine Calls.mono (strTwin_any ?_ HF.out) ?_
  · exact S.out.below (by repeat (first | (with_reducible exact Below.refl _ _) | (with_reducible exact Below.refl _ _) | (with_reducible apply Below.drew) | (with_reducible apply below_alloc) | ((with_reducible refine Below.alloc ?_ ?_ _); rotate_left; focus (first | (simp; done) | (simp; omega) | omega)) | ((with_reducible refine Below.setCell ?_ ?_ _); rotate_left; focus (first | (simp; done) | (simp; omega) | omega))))
  rintro e w1 ⟨ta, tc, rfl, os, hb⟩
  obtain ⟨a1, cap1, b1, nc1, cc1, ev, -, -⟩ := os.reads.shape
  cases ev
  have HB : Hid (Below w.heap.size w _) := below_step (by repeat (first | (with_reducible exact Below.refl _ _) | (with_reducible exact Below.refl _ _) | (with_reducible apply Below.drew) | (with_reducible apply below_alloc) | ((with_reducible refine Below.alloc ?_ ?_ _); rotate_left; focus (first | (simp; done) | (simp; omega) | omega)) | ((with_reducible refine Below.setCell ?_ ?_ _); rotate_left; focus (first | (simp; done) | (simp; omega) | omega)))) hb
  have P : Blk _ (w.heap.size) _ _ := Blk.step (by repeat (first | ((with_reducible apply Blk.new); focus (first | rfl | (simp; done) | (simp; omega))) | (with_reducible apply Blk.drew) | (with_reducible apply Blk.alloc) | (with_reducible apply Blk.set_) | ((with_reducible apply Blk.far); rotate_left; focus (first | (simp; done) | (simp; omega) | omega)))) hb
  obtain ⟨p0, p1, pz⟩ := cells2 P
  have pl := Blk.lt P
  have HP := Lib.hid P
  clear P
  have X : Blk _ (w.heap.size + 1) _ _ := Blk.step (by repeat (first | ((with_reducible apply Blk.new); focus (first | rfl | (simp; done) | (simp; omega))) | (with_reducible apply Blk.drew) | (with_reducible apply Blk.alloc) | (with_reducible apply Blk.set_) | ((with_reducible apply Blk.far); rotate_left; focus (first | (simp; done) | (simp; omega) | omega)))) hb
  obtain ⟨x0, x1, x2, x3, xz⟩ := cells4 X
  have xl := Blk.lt X
  have HX := Lib.hid X
  clear X
  have R : Blk _ (w.heap.size + 2) _ _ := Blk.step (by repeat (first | ((with_reducible apply Blk.new); focus (first | rfl | (simp; done) | (simp; omega))) | (with_reducible apply Blk.drew) | (with_reducible apply Blk.alloc) | (with_reducible apply Blk.set_) | ((with_reducible apply Blk.far); rotate_left; focus (first | (simp; done) | (simp; omega) | omega)))) hb
  obtain ⟨r0, r1, rz⟩ := cells2 R
  have rl := Blk.lt R
  have HR := Lib.hid R
  clear R
  obtain ⟨_, _, ev, ot, oc⟩ := os
  cases ev
  have OT : Hid (OwnT w1 (w.heap.size + 3) _ _) := ot.le (by simp)
  have OC : Hid (OwnC w1 (w.heap.size + 3) _ _) := OwnRows.le oc (by simp)
  clear hb ot oc
  obtain ⟨g, hg, ⟨hg1, hg2⟩, ⟨-, hn1, hn2⟩, hat, hfz⟩ := OT.out.at_ HI.out
  subst hg
  obtain ⟨ea, ecap, ⟨⟨⟨c0, c1⟩, c2⟩, c3⟩, -⟩ := hat
  unfold maxLen at hn2
  have hi0 : (0 : Int) ≤ (i : Int) := by omega
  have hi1 : (i : Int) < (s.tops.length : Int) := by omega
  go_wp2_with fail
  have HW1 : Below w.heap.size w ((w1.setCell ⟨w.heap.size, 0, none⟩ (.slice (some ⟨g, 0, none⟩) s.tops.length cap1)).setCell ⟨w.heap.size, 1, none⟩ (.slice b1 nc1 cc1)) := (HB.out.setCell (by simp) _).setCell (by simp) _
  have OT1 := (OT.out.far (o := 0) (b := w.heap.size) (u := .slice (some ⟨g, 0, none⟩) s.tops.length cap1) (by omega)).far (o := 1) (b := w.heap.size) (u := .slice b1 nc1 cc1) (by omega)
  have OC1 := OwnC.far (o := 1) (b := w.heap.size) (u := .slice b1 nc1 cc1) (OwnC.far (o := 0) (b := w.heap.size) (u := .slice (some ⟨g, 0, none⟩) s.tops.length cap1) OC.out (by omega)) (by omega)
  have HR1 := (HR.out.far (o := 0) (b := w.heap.size) (by omega) (.slice (some ⟨g, 0, none⟩) s.tops.length cap1)).far (o := 1) (b := w.heap.size) (by omega) (.slice b1 nc1 cc1)
  obtain ⟨ps, -, hrow, -⟩ := id OT1
  have OT2 := (OT1.le (B' := B) (by omega)).put HI.out (own_below HU.out HW1)
  have OC2 := OwnC.over OC1 (fun b hb => heap_putT (i := i) (u := .slice ua t.ents.length uc) (t := t) hb) hrow rfl (by decide) (by decide)
  have HR2 := (((HR1.far (b := g) (o := i * 4) (by omega) (.int .i64 t.base)).far (b := g) (o := i * 4 + 1) (by omega) (.int .i64 t.next)).far (b := g) (o := i * 4 + 2) (by omega) (.int .i64 t.mark)).far (b := g) (o := i * 4 + 3) (by omega) (.slice ua t.ents.length uc)
  have HB2 := below_putT (i := i) (u := .slice ua t.ents.length uc) (t := t) HW1 (show w.heap.size ≤ g by omega)
  have HR3 := HR2.set_ 0 (.slice (some ⟨g, 0, none⟩) s.tops.length cap1)
  obtain ⟨t0, t1, -⟩ := cells2 (HR3.set_ 1 (.slice b1 nc1 cc1))
  refine bodyPost_ret (v := .agg #[.slice (some ⟨g, 0, none⟩) s.tops.length cap1, .slice b1 nc1 cc1]) (by simp [results, Try.results78, go_sem, t0, t1]) rfl ⟨_, _, rfl, ⟨_, _, rfl, ?_, ?_⟩, ?_⟩
  · exact OwnT.blk (OwnT.blk OT2 HR2 (by decide) (by decide)) HR3 (by decide) (by decide)
  · exact OwnRows.le (OwnC.far (OwnC.far OC2 (by omega)) (by omega)) (by omega)
  · exact (HB2.setCell (p := ⟨w.heap.size + 2, 0, none⟩) (by simp) _).setCell (p := ⟨w.heap.size + 2, 1, none⟩) (by simp) _
end Go.Proofs.Ytblgmjbajnkcdab
/-
  Plain: topics with a message more. No program in sight but its types.
-/
namespace Go.Proofs.Ytblgmjbajnkcdab
open Go.RowKit

def Str.zero : Str := ⟨[], []⟩
def putS (s : Str) (id topic : Int) (k b : ByteArray) : Str × Int × Int :=
  if askS s topic = 0 then (if (addP (topN s topic) id k b).2.2 = 0 then (⟨s.tops.set topic.toNat (addP (topN s topic) id k b).1, s.coms⟩, (addP (topN s topic) id k b).2.1, 0) else (Str.zero, 0, (addP (topN s topic) id k b).2.2)) else (Str.zero, 0, askS s topic)
theorem few_of_may {s : Str} (h : mayS s) : fewS s := by
  obtain ⟨⟨h1, h2⟩, h3, _⟩ := h
  refine ⟨by omega, fun t ht => ?_, ?_⟩
  · have := (h2 t ht).1
    unfold Top.head at this
    omega
  · obtain ⟨hl, hr⟩ := okC_spec h3
    refine ⟨by omega, fun r hr' => ?_⟩
    have := (hr r hr').1
    omega
theorem OwnS.zero (w : World) (B : Nat) : OwnS w B (.agg #[.slice none 0 0, .slice none 0 0]) Str.zero := ⟨_, _, rfl, OwnT.nil _ _, OwnRows.nil _ _ _ _⟩
theorem OwnS.blk {W : World} {B b o : Nat} {t : TypeId} {cs : List Value} {v u : Value} {s : Str} (h : OwnS W B v s) (hb : Blk W b t cs) (h1t : 70 ≠ t) (h2t : 29 ≠ t) (h3t : 43 ≠ t) (h4t : 3 ≠ t) : OwnS (W.setCell ⟨b, o, none⟩ u) B v s := by
  obtain ⟨ta, tc, rfl, h1, h2⟩ := h
  exact ⟨ta, tc, rfl, h1.blk hb h1t h2t, OwnC.blk h2 hb h3t h4t⟩
def PutEnd (u : Str) (n x : Int) (w : World) (e : Ending) (w' : World) : Prop := ∃ ta tc, e = .returned (.tuple #[.agg #[ta, tc], .int .i64 n, .int .i64 x]) ∧ OwnS w' w.heap.size (.agg #[ta, tc]) u ∧ Below w.heap.size w w'
def DoEnd (u : Str) (x : Int) (w : World) (e : Ending) (w' : World) : Prop := ∃ ta tc, e = .returned (.tuple #[.agg #[ta, tc], .int .i64 x]) ∧ OwnS w' w.heap.size (.agg #[ta, tc]) u ∧ Below w.heap.size w w'
theorem cells5 {w : World} {g : Nat} {t : TypeId} {a b c d e : Value} (h : Blk w g t [a, b, c, d, e]) :
    w.cell? ⟨g, 0, none⟩ = some a ∧ w.cell? ⟨g, 1, none⟩ = some b ∧ w.cell? ⟨g, 2, none⟩ = some c ∧ w.cell? ⟨g, 3, none⟩ = some d ∧ w.cell? ⟨g, 4, none⟩ = some e ∧ ∀ o, w.frozen? ⟨g, o, none⟩ = false := ⟨h.cell 0, h.cell 1, h.cell 2, h.cell 3, h.cell 4, h.free⟩
end Go.Proofs.Ytblgmjbajnkcdab
/-
  stream.Put.
-/
namespace Go.Proofs.Ytblgmjbajnkcdab
open Go.RowKit

set_option maxHeartbeats 8000000 in
set_option maxRecDepth 100000 in
theorem strPut_any {v : Value} {s u : Str} {w : World} {n x : Int} {ga : Option Addr} {gn gc : Nat} (id topic : Int) (k b : ByteArray) (h : StrR w v s) (hk : strKeys s) (hu : putS s id topic k b = (u, n, x)) :
    Calls Try.prog 39 #[v, .agg #[.int .i64 id, .slice ga gn gc, .int .i64 topic, .string k, .string b]] w (PutEnd u n x w) := by
  have HS := Lib.hid h
  have HK := Lib.hid hk
  obtain ⟨a, cap, bb, nc, cc, rfl, hT, -⟩ := h.shape
  by_cases ha : askS s topic = 0
  · rw [putS, if_pos ha] at hu
    have HA := Lib.hid ha
    obtain ⟨hm, h0, h1⟩ := askS_zero.1 ha
    have h4 := hm.1.1
    have HF := Lib.hid (few_of_may hm)
    have HKT := Lib.hid (hk _ (topN_mem hm h0 h1))
    obtain ⟨i, rfl⟩ : ∃ i : Nat, topic = (i : Int) := ⟨topic.toNat, by omega⟩
    have HI := Lib.hid (show i < s.tops.length by omega)
    obtain ⟨⟨-, hcap, hmx⟩, g, off, rfl, hat⟩ := StrR.top hT (i := i) h0 (by omega)
    rw [show s.tops.getD (i : Int).toNat default = topN s i from rfl] at hat
    obtain ⟨t, ht⟩ : ∃ t, t = topN s i := ⟨_, rfl⟩
    rw [← ht] at hat hu HKT
    obtain ⟨t', y, f, hadd⟩ : ∃ t' y f, addP t id k b = (t', y, f) := ⟨_, _, _, rfl⟩
    rw [hadd] at hu
    simp only [Int.toNat_natCast] at hu hat
    have HADD := Lib.hid hadd
    have HU := Lib.hid hu
    unfold maxLen at hmx
    have HAT := Lib.hid hat
    have h5 : (i : Int) < (s.tops.length : Int) := by omega
    have h6 : (s.tops.length : Int) = 4 := by omega
    have hgw : g < w.heap.size := World.block_lt_of_cell? w _ hat.choose_spec.choose_spec.1.1.1.1
    clear h hk hT ha hm h4 hu ht hat hadd
    go_enter Try.func39, Try.ntmps39
    go_wp2_with fail
    refine Calls.mono (strAsked_any (i : Int) ?_ HK.out HA.out) ?_
    · exact HS.out.below (by repeat (first | (with_reducible exact Below.refl _ _) | (with_reducible exact Below.refl _ _) | (with_reducible apply Below.drew) | (with_reducible apply below_alloc) | ((with_reducible refine Below.alloc ?_ ?_ _); rotate_left; focus (first | (simp; done) | (simp; omega) | omega)) | ((with_reducible refine Below.setCell ?_ ?_ _); rotate_left; focus (first | (simp; done) | (simp; omega) | omega))))
    rintro e w1 ⟨rfl, hb⟩
    have HB : Hid (Below w.heap.size w _) := below_step (by repeat (first | (with_reducible exact Below.refl _ _) | (with_reducible exact Below.refl _ _) | (with_reducible apply Below.drew) | (with_reducible apply below_alloc) | ((with_reducible refine Below.alloc ?_ ?_ _); rotate_left; focus (first | (simp; done) | (simp; omega) | omega)) | ((with_reducible refine Below.setCell ?_ ?_ _); rotate_left; focus (first | (simp; done) | (simp; omega) | omega)))) hb
    have P : Blk _ (w.heap.size) _ _ := Blk.step (by repeat (first | ((with_reducible apply Blk.new); focus (first | rfl | (simp; done) | (simp; omega))) | (with_reducible apply Blk.drew) | (with_reducible apply Blk.alloc) | (with_reducible apply Blk.set_) | ((with_reducible apply Blk.far); rotate_left; focus (first | (simp; done) | (simp; omega) | omega)))) hb
    obtain ⟨p0, p1, pz⟩ := cells2 P
    have pl := Blk.lt P
    have HP := Lib.hid P
    clear P
    have HM : Hid (Blk w1 (w.heap.size + 1) 45 [.int .i64 id, .slice ga gn gc, .int .i64 (i : Int), .string k, .string b]) := Blk.step (by repeat (first | (with_reducible exact Blk.new rfl) | ((with_reducible apply Blk.new); focus (first | rfl | (simp; done) | (simp; omega))) | (with_reducible apply Blk.drew) | (with_reducible apply Blk.alloc) | (with_reducible apply Blk.set_) | ((with_reducible apply Blk.far); rotate_left; focus (first | (simp; done) | (simp; omega) | omega)))) hb
    obtain ⟨m0, m1, m2, m3, m4, mz⟩ := cells5 HM.out
    have ml := HM.out.lt
    have R : Blk _ (w.heap.size + 2) _ _ := Blk.step (by repeat (first | ((with_reducible apply Blk.new); focus (first | rfl | (simp; done) | (simp; omega))) | (with_reducible apply Blk.drew) | (with_reducible apply Blk.alloc) | (with_reducible apply Blk.set_) | ((with_reducible apply Blk.far); rotate_left; focus (first | (simp; done) | (simp; omega) | omega)))) hb
    obtain ⟨r0, r1, rz⟩ := cells2 R
    have rl := Blk.lt R
    have HR := Lib.hid R
    clear R
    obtain ⟨ea, ecap, ⟨⟨⟨c0, c1⟩, c2⟩, c3⟩, hTT⟩ := HAT.out.keep HB.out
    have T := Lib.hid hTT
    clear hb hTT
    go_wp2_with fail
    have KS : Hid (∀ W' : World, Below w1.heap.size w1 W' → (W'.cell? ⟨w.heap.size, 0, none⟩ = some (.slice (some ⟨g, off, none⟩) s.tops.length cap) ∧ (W'.cell? ⟨w.heap.size + 1, 0, none⟩ = some (.int .i64 id) ∧ W'.cell? ⟨w.heap.size + 1, 2, none⟩ = some (.int .i64 (i : Int))) ∧ (W'.cell? ⟨w.heap.size + 1, 3, none⟩ = some (.string k) ∧ W'.cell? ⟨w.heap.size + 1, 4, none⟩ = some (.string b))) ∧ ((W'.cell? ⟨g, off + i * 4, none⟩ = some (.int .i64 t.base) ∧ W'.cell? ⟨g, off + i * 4 + 1, none⟩ = some (.int .i64 t.next)) ∧ W'.cell? ⟨g, off + i * 4 + 2, none⟩ = some (.int .i64 t.mark) ∧ W'.cell? ⟨g, off + i * 4 + 3, none⟩ = some (.slice ea t.ents.length ecap))) := fun W' hb => by
      have c := fun (p : Addr) (hp : p.block < w1.heap.size) => hb.cell hp
      refine ⟨⟨(c _ ?_).trans p0, ⟨(c _ ?_).trans m0, (c _ ?_).trans m2⟩, (c _ ?_).trans m3, (c _ ?_).trans m4⟩, ⟨(c _ ?_).trans c0, (c _ ?_).trans c1⟩, (c _ ?_).trans c2, (c _ ?_).trans c3⟩ <;> (simp only []; omega)
    have KT := KS.out w1 (Below.refl _ _)
    go_region_held3 (fun W' => (W'.cell? ⟨w.heap.size, 0, none⟩ = some (.slice (some ⟨g, off, none⟩) s.tops.length cap) ∧ (W'.cell? ⟨w.heap.size + 1, 0, none⟩ = some (.int .i64 id) ∧ W'.cell? ⟨w.heap.size + 1, 2, none⟩ = some (.int .i64 (i : Int))) ∧ (W'.cell? ⟨w.heap.size + 1, 3, none⟩ = some (.string k) ∧ W'.cell? ⟨w.heap.size + 1, 4, none⟩ = some (.string b))) ∧ ((W'.cell? ⟨g, off + i * 4, none⟩ = some (.int .i64 t.base) ∧ W'.cell? ⟨g, off + i * 4 + 1, none⟩ = some (.int .i64 t.next)) ∧ W'.cell? ⟨g, off + i * 4 + 2, none⟩ = some (.int .i64 t.mark) ∧ W'.cell? ⟨g, off + i * 4 + 3, none⟩ = some (.slice ea t.ents.length ecap)))
      (first | (with_reducible exact KT) | (refine KS.out _ ?_; done) | (refine KS.out _ ?_; (repeat (first | (with_reducible exact Below.refl _ _) | (with_reducible exact Below.refl _ _) | (with_reducible apply Below.drew) | (with_reducible apply below_alloc) | ((with_reducible refine Below.alloc ?_ ?_ _); rotate_left; focus (first | (simp; done) | (simp; omega) | omega)) | ((with_reducible refine Below.setCell ?_ ?_ _); rotate_left; focus (first | (simp; done) | (simp; omega) | omega)))); done) | (refine KS.out _ ?_; (repeat (first | (with_reducible exact HQ.out) | (with_reducible exact Below.refl _ _) | (with_reducible apply Below.drew) | (with_reducible apply below_alloc) | ((with_reducible refine Below.alloc ?_ ?_ _); rotate_left; focus (first | (simp; done) | (simp; omega) | omega)) | ((with_reducible refine Below.setCell ?_ ?_ _); rotate_left; focus (first | (simp; done) | (simp; omega) | omega)))); done))
      (first | (go_at_call 77; refine (add_any id k b (T.out.below (Below.drew (Below.refl _ _))) HKT.out HADD.out).mono ?_; rintro e w2 ⟨ad2, cp2, rfl, ow2, hb⟩; have HQ : Hid (Below w1.heap.size w1 w2) := below_step (Below.drew (Below.refl _ _)) hb; have O2 : Hid (OwnE w2 w1.heap.size _ _) := Lib.hid (own_base ow2 (by simp)); clear hb ow2) | (go_at_call 77; refine (add_any id k b (T.out.below (Below.drew (below_alloc (Below.refl _ _)))) HKT.out HADD.out).mono ?_; rintro e w2 ⟨ad2, cp2, rfl, ow2, hb⟩; have HQ : Hid (Below w1.heap.size w1 w2) := below_step (Below.drew (below_alloc (Below.refl _ _))) hb; have HY := Lib.hid (Blk.step (Blk.drew (Blk.new (w := w1) (t := 70) (cs := [.int .i64 0, .int .i64 0, .int .i64 0, .slice none 0 0]) rfl)) hb); obtain ⟨y0, y1, y2, y3, yz⟩ := cells4 HY.out; have O2 : Hid (OwnE w2 (w1.heap.size + 1) _ _) := Lib.hid (own_base ow2 (by simp)); clear hb ow2))
    all_goals
      have HP2 := Lib.hid (HP.out.below HQ.out pl)
      have HM2 := Lib.hid (HM.out.below HQ.out ml)
      have HR2 := Lib.hid (HR.out.below HQ.out rl)
      have HB2 : Hid (Below w.heap.size w w2) := Lib.hid (HB.out.trans (HQ.out.mono (by omega)))
      have hw2 : w1.heap.size ≤ w2.heap.size := HQ.out.size
      clear p0 p1 pz m0 m1 m2 m3 m4 mz r0 r1 rz c0 c1 c2 c3 HP HM HR KS KT
      obtain ⟨p0, p1, pz⟩ := cells2 HP2.out
      obtain ⟨m0, m1, m2, m3, m4, mz⟩ := cells5 HM2.out
      obtain ⟨r0, r1, rz⟩ := cells2 HR2.out
      have pl2 := HP2.out.lt
      have ml2 := HM2.out.lt
      have rl2 := HR2.out.lt
      have hu := HU.out
      by_cases hf : f = 0
      · subst hf
        simp only [if_true] at hu
        cases hu
        go_wp2_with fail
        refine Calls.mono (with_any (B := w.heap.size) i ?_ HF.out HI.out ?_ ?_) ?_
        · exact HS.out.below (by repeat (first | (with_reducible exact HB2.out) | (with_reducible exact Below.refl _ _) | (with_reducible apply Below.drew) | (with_reducible apply below_alloc) | ((with_reducible refine Below.alloc ?_ ?_ _); rotate_left; focus (first | (simp; done) | (simp; omega) | omega)) | ((with_reducible refine Below.setCell ?_ ?_ _); rotate_left; focus (first | (simp; done) | (simp; omega) | omega))))
        · first
            | (refine own_base (B := w1.heap.size + 1) ?_ (by omega); (repeat (first | (with_reducible exact O2.out) | (with_reducible apply own_drew) | (with_reducible apply own_alloc) | ((with_reducible apply own_set); rotate_left; focus (first | (simp; done) | (simp; omega) | omega)))); done)
            | (refine own_base (B := w1.heap.size) ?_ (by omega); (repeat (first | (with_reducible exact O2.out) | (with_reducible apply own_drew) | (with_reducible apply own_alloc) | ((with_reducible apply own_set); rotate_left; focus (first | (simp; done) | (simp; omega) | omega)))); done)
        · first | omega | (simp; omega)
        rintro e w3 ⟨ta, tc, rfl, os, hb⟩
        obtain ⟨a3, cap3, b3, nc3, cc3, ev, -, -⟩ := os.reads.shape
        cases ev
        clear r0 r1 rz
        have HB3 : Hid (Below w.heap.size w _) := below_step (by repeat (first | (with_reducible exact HB2.out) | (with_reducible exact Below.refl _ _) | (with_reducible apply Below.drew) | (with_reducible apply below_alloc) | ((with_reducible refine Below.alloc ?_ ?_ _); rotate_left; focus (first | (simp; done) | (simp; omega) | omega)) | ((with_reducible refine Below.setCell ?_ ?_ _); rotate_left; focus (first | (simp; done) | (simp; omega) | omega)))) hb
        have R : Blk _ (w.heap.size + 2) _ _ := Blk.step (by repeat (first | (with_reducible exact HR2.out) | ((with_reducible apply Blk.new); focus (first | rfl | (simp; done) | (simp; omega))) | (with_reducible apply Blk.drew) | (with_reducible apply Blk.alloc) | (with_reducible apply Blk.set_) | ((with_reducible apply Blk.far); rotate_left; focus (first | (simp; done) | (simp; omega) | omega)))) hb
        try simp only [List.set_cons_zero, List.set_cons_succ] at R
        obtain ⟨r0, r1, rz⟩ := cells2 R
        have rl := Blk.lt R
        have HR := Lib.hid R
        clear R
        have e3 : (s.tops.set i t').length = s.tops.length := List.length_set ..
        have OS : Hid (OwnS w3 w.heap.size (.agg #[.slice a3 s.tops.length cap3, .slice b3 nc3 cc3]) ⟨s.tops.set i t', s.coms⟩) := Lib.hid (by rw [← e3]; exact os)
        clear hb os e3
        go_wp2_with fail
        have HR3 := HR.out.set_ 0 (.slice a3 s.tops.length cap3)
        obtain ⟨t0, t1, -⟩ := cells2 (HR3.set_ 1 (.slice b3 nc3 cc3))
        refine bodyPost_ret (v := .tuple #[.agg #[.slice a3 s.tops.length cap3, .slice b3 nc3 cc3], .int .i64 n, .int .i64 0]) (by simp [results, Try.results39, go_sem, t0, t1]) rfl ⟨_, _, rfl, ?_, ?_⟩
        · exact (OS.out.blk HR.out (by decide) (by decide) (by decide) (by decide)).blk HR3 (by decide) (by decide) (by decide) (by decide)
        · exact (HB3.out.setCell (p := ⟨w.heap.size + 2, 0, none⟩) (by simp) _).setCell (p := ⟨w.heap.size + 2, 1, none⟩) (by simp) _
      · have hd : (f != 0) = true := by simpa using hf
        rw [if_neg hf] at hu
        cases hu
        go_wp2_with fail
        first
          | (obtain ⟨t0, t1, -⟩ := cells2 (((HR2.out.set_ 0 (.slice none 0 0)).set_ 1 (.slice none 0 0)).alloc (.cells #[.int .i64 t'.base, .int .i64 t'.next, .int .i64 t'.mark, .slice ad2 t'.ents.length cp2] 70)); refine bodyPost_ret (v := .tuple #[.agg #[.slice none 0 0, .slice none 0 0], .int .i64 0, .int .i64 x]) ?_ rfl ⟨_, _, rfl, OwnS.zero _ _, ?_⟩; focus (simp [results, Try.results39, go_sem, t0, t1]; done))
          | (obtain ⟨t0, t1, -⟩ := cells2 ((((((HR2.out.far (b := w1.heap.size) (o := 0) (by omega) (.int .i64 t'.base)).far (b := w1.heap.size) (o := 1) (by omega) (.int .i64 t'.next)).far (b := w1.heap.size) (o := 2) (by omega) (.int .i64 t'.mark)).far (b := w1.heap.size) (o := 3) (by omega) (.slice ad2 t'.ents.length cp2)).set_ 0 (.slice none 0 0)).set_ 1 (.slice none 0 0)); refine bodyPost_ret (v := .tuple #[.agg #[.slice none 0 0, .slice none 0 0], .int .i64 0, .int .i64 x]) ?_ rfl ⟨_, _, rfl, OwnS.zero _ _, ?_⟩; focus (simp [results, Try.results39, go_sem, t0, t1]; done))
        repeat (first | (with_reducible exact HB2.out) | (with_reducible exact Below.refl _ _) | (with_reducible apply Below.drew) | (with_reducible apply below_alloc) | ((with_reducible refine Below.alloc ?_ ?_ _); rotate_left; focus (first | (simp; done) | (simp; omega) | omega)) | ((with_reducible refine Below.setCell ?_ ?_ _); rotate_left; focus (first | (simp; done) | (simp; omega) | omega)))
  · rw [putS, if_neg ha] at hu
    injection hu with hx hy
    injection hy with hy hz
    subst hx
    subst hy
    have HA := Lib.hid hz
    have hd : (x != 0) = true := by rw [← hz]; simpa using ha
    clear h hk hT ha hz
    go_enter Try.func39, Try.ntmps39
    go_wp2_with fail
    refine Calls.mono (strAsked_any topic ?_ HK.out HA.out) ?_
    · exact HS.out.below (by repeat (first | (with_reducible exact Below.refl _ _) | (with_reducible exact Below.refl _ _) | (with_reducible apply Below.drew) | (with_reducible apply below_alloc) | ((with_reducible refine Below.alloc ?_ ?_ _); rotate_left; focus (first | (simp; done) | (simp; omega) | omega)) | ((with_reducible refine Below.setCell ?_ ?_ _); rotate_left; focus (first | (simp; done) | (simp; omega) | omega))))
    rintro e w1 ⟨rfl, hb⟩
    have HB : Hid (Below w.heap.size w _) := below_step (by repeat (first | (with_reducible exact Below.refl _ _) | (with_reducible exact Below.refl _ _) | (with_reducible apply Below.drew) | (with_reducible apply below_alloc) | ((with_reducible refine Below.alloc ?_ ?_ _); rotate_left; focus (first | (simp; done) | (simp; omega) | omega)) | ((with_reducible refine Below.setCell ?_ ?_ _); rotate_left; focus (first | (simp; done) | (simp; omega) | omega)))) hb
    have R : Blk _ (w.heap.size + 2) _ _ := Blk.step (by repeat (first | ((with_reducible apply Blk.new); focus (first | rfl | (simp; done) | (simp; omega))) | (with_reducible apply Blk.drew) | (with_reducible apply Blk.alloc) | (with_reducible apply Blk.set_) | ((with_reducible apply Blk.far); rotate_left; focus (first | (simp; done) | (simp; omega) | omega)))) hb
    obtain ⟨r0, r1, rz⟩ := cells2 R
    have rl := Blk.lt R
    have HR := Lib.hid R
    clear R
    clear hb
    go_wp2_with fail
    refine bodyPost_ret (v := .tuple #[.agg #[.slice none 0 0, .slice none 0 0], .int .i64 0, .int .i64 x]) (by simp [results, Try.results39, go_sem, r0, r1]) rfl ⟨_, _, rfl, OwnS.zero _ _, ?_⟩
    repeat (first | (with_reducible exact HB.out) | (with_reducible exact Below.refl _ _) | (with_reducible apply Below.drew) | (with_reducible apply below_alloc) | ((with_reducible refine Below.alloc ?_ ?_ _); rotate_left; focus (first | (simp; done) | (simp; omega) | omega)) | ((with_reducible refine Below.setCell ?_ ?_ _); rotate_left; focus (first | (simp; done) | (simp; omega) | omega)))
end Go.Proofs.Ytblgmjbajnkcdab
/-
  Plain: a command on a topic. No program in sight but its types.
-/
namespace Go.Proofs.Ytblgmjbajnkcdab
open Go.RowKit

/-- A topic turned by r, or r's error. -/
def turnS (s : Str) (topic : Int) (r : Top × Int) : Str × Int := if r.2 = 0 then (⟨s.tops.set topic.toNat r.1, s.coms⟩, 0) else (Str.zero, r.2)
def commitS (s : Str) (topic who n : Int) : Str × Int :=
  if who < 0 ∨ 8 ≤ who ∨ n < 0 ∨ 1073741824 < n then (Str.zero, 2) else if (topN s topic).next < n then (Str.zero, 170) else (⟨s.tops, setC s.coms topic who n⟩, 0)
def doS (s : Str) (kind topic who n : Int) : Str × Int :=
  if askS s topic = 0 then (if kind = 4 then commitS s topic who n else if kind = 5 then turnS s topic (trimP (topN s topic) n) else if kind = 6 then turnS s topic (compactP (topN s topic) n) else (Str.zero, 2)) else (Str.zero, askS s topic)
theorem cells12 {w : World} {g : Nat} {t : TypeId} {a b c d e f a' b' c' d' e' f' : Value} (h : Blk w g t [a, b, c, d, e, f, a', b', c', d', e', f']) :
    ((w.cell? ⟨g, 0, none⟩ = some a ∧ w.cell? ⟨g, 1, none⟩ = some b ∧ w.cell? ⟨g, 2, none⟩ = some c ∧ w.cell? ⟨g, 3, none⟩ = some d) ∧ (w.cell? ⟨g, 4, none⟩ = some e ∧ w.cell? ⟨g, 5, none⟩ = some f ∧ w.cell? ⟨g, 6, none⟩ = some a' ∧ w.cell? ⟨g, 7, none⟩ = some b') ∧
      w.cell? ⟨g, 8, none⟩ = some c' ∧ w.cell? ⟨g, 9, none⟩ = some d' ∧ w.cell? ⟨g, 10, none⟩ = some e' ∧ w.cell? ⟨g, 11, none⟩ = some f') ∧ ∀ o, w.frozen? ⟨g, o, none⟩ = false :=
  ⟨⟨⟨h.cell 0, h.cell 1, h.cell 2, h.cell 3⟩, ⟨h.cell 4, h.cell 5, h.cell 6, h.cell 7⟩, h.cell 8, h.cell 9, h.cell 10, h.cell 11⟩, h.free⟩
end Go.Proofs.Ytblgmjbajnkcdab
/-
  stream.commit, behind stream.Do's own look at the topics.
-/
namespace Go.Proofs.Ytblgmjbajnkcdab
open Go.RowKit

set_option maxHeartbeats 8000000 in
set_option maxRecDepth 100000 in
theorem strCommit_any {v : Value} {s u : Str} {w : World} {x kind mid mt id time : Int} {ga ma : Option Addr} {gn gc mn mc : Nat} {mk mb : ByteArray} (topic who n : Int) (h : StrR w v s) (ha : askS s topic = 0) (hu : commitS s topic who n = (u, x)) :
    Calls Try.prog 79 #[v, .agg #[.int .u8 kind, .int .i64 mid, .slice ga gn gc, .int .i64 mt, .string mk, .string mb, .int .i64 id, .int .i64 time, .slice ma mn mc, .int .i64 topic, .int .i64 who, .int .i64 n]] w (DoEnd u x w) := by
  have HS := Lib.hid h
  obtain ⟨a, cap, bb, nc, cc, rfl, hT, -⟩ := h.shape
  obtain ⟨hm, h0, h1⟩ := askS_zero.1 ha
  have h4 := hm.1.1
  have HF := Lib.hid (few_of_may hm)
  have HM := Lib.hid hm
  obtain ⟨i, rfl⟩ : ∃ i : Nat, topic = (i : Int) := ⟨topic.toNat, by omega⟩
  have HI := Lib.hid (show i < s.tops.length by omega)
  obtain ⟨⟨-, hcap, hmx⟩, g, off, rfl, hat⟩ := StrR.top hT (i := i) h0 (by omega)
  rw [show s.tops.getD (i : Int).toNat default = topN s i from rfl] at hat
  obtain ⟨t, ht⟩ : ∃ t, t = topN s i := ⟨_, rfl⟩
  rw [commitS, ← ht] at hu
  rw [← ht] at hat
  simp only [Int.toNat_natCast] at hat
  have HAT := Lib.hid hat
  have h5 : (i : Int) < (s.tops.length : Int) := by omega
  have hgw : g < w.heap.size := World.block_lt_of_cell? w _ hat.choose_spec.choose_spec.1.1.1.1
  unfold maxLen at hmx
  by_cases hb : who < 0 ∨ 8 ≤ who ∨ n < 0 ∨ 1073741824 < n
  · rw [if_pos hb] at hu
    cases hu
    clear h hT ha hm h4 ht hat
    go_enter Try.func79, Try.ntmps79
    by_cases c1 : who < 0
    rotate_left
    by_cases c2 : 8 ≤ who
    rotate_left
    by_cases c3 : n < 0
    rotate_left
    have c4 : 1073741824 < n := by omega
    all_goals
      go_wp2_with fail
      refine bodyPost_ret (v := .tuple #[.agg #[.slice none 0 0, .slice none 0 0], .int .i64 2]) (by simp [results, Try.results79, go_sem]) rfl ⟨_, _, rfl, OwnS.zero _ _, ?_⟩
      repeat (first | (with_reducible exact Below.refl _ _) | (with_reducible exact Below.refl _ _) | (with_reducible apply Below.drew) | (with_reducible apply below_alloc) | ((with_reducible refine Below.alloc ?_ ?_ _); rotate_left; focus (first | (simp; done) | (simp; omega) | omega)) | ((with_reducible refine Below.setCell ?_ ?_ _); rotate_left; focus (first | (simp; done) | (simp; omega) | omega)))
  · rw [if_neg hb] at hu
    have b1 : ¬ who < 0 := by omega
    have b2 : ¬ 8 ≤ who := by omega
    have b3 : ¬ n < 0 := by omega
    have b4 : ¬ 1073741824 < n := by omega
    obtain ⟨ea, ecap, ⟨⟨⟨c0, c1⟩, c2⟩, c3⟩, -⟩ := HAT.out
    obtain ⟨nx, hnx⟩ : ∃ nx, nx = t.next := ⟨_, rfl⟩
    rw [← hnx] at hu c1
    have HNX := Lib.hid hnx
    clear hnx
    have d1 : ((((w.alloc (.cells #[.slice (some ⟨g, off, none⟩) s.tops.length cap, .slice bb nc cc] 58)).alloc (.cells #[.int .u8 kind, .int .i64 mid, .slice ga gn gc, .int .i64 mt, .string mk, .string mb, .int .i64 id, .int .i64 time, .slice ma mn mc, .int .i64 (i : Int), .int .i64 who, .int .i64 n] 47)).alloc (.cells #[.slice none 0 0, .slice none 0 0] 58)).drew).cell? ⟨g, off + i * 4 + 1, none⟩ = some (.int .i64 nx) := (Below.cell (B := w.heap.size) (by repeat (first | (with_reducible exact Below.refl _ _) | (with_reducible exact Below.refl _ _) | (with_reducible apply Below.drew) | (with_reducible apply below_alloc) | ((with_reducible refine Below.alloc ?_ ?_ _); rotate_left; focus (first | (simp; done) | (simp; omega) | omega)) | ((with_reducible refine Below.setCell ?_ ?_ _); rotate_left; focus (first | (simp; done) | (simp; omega) | omega)))) hgw).trans c1
    have g0 : g ≠ w.heap.size := by omega
    have g1 : g ≠ w.heap.size + 1 := by omega
    have g2 : g ≠ w.heap.size + 1 + 1 := by omega
    by_cases hn : nx < n
    · rw [if_pos hn] at hu
      cases hu
      clear h hT ha hm h4 ht hat hb
      go_enter Try.func79, Try.ntmps79
      go_wp2_with fail
      go_region
      go_wp2_with fail
      refine bodyPost_ret (v := .tuple #[.agg #[.slice none 0 0, .slice none 0 0], .int .i64 170]) (by simp [results, Try.results79, go_sem]) rfl ⟨_, _, rfl, OwnS.zero _ _, ?_⟩
      repeat (first | (with_reducible exact Below.refl _ _) | (with_reducible exact Below.refl _ _) | (with_reducible apply Below.drew) | (with_reducible apply below_alloc) | ((with_reducible refine Below.alloc ?_ ?_ _); rotate_left; focus (first | (simp; done) | (simp; omega) | omega)) | ((with_reducible refine Below.setCell ?_ ?_ _); rotate_left; focus (first | (simp; done) | (simp; omega) | omega)))
    · rw [if_neg hn] at hu
      cases hu
      have HOK := Lib.hid (show okC s.coms = true from hm.2.1)
      have e0 : (0 : Int) ≤ who := by omega
      have e1 : who < 8 := by omega
      have e2 : 0 ≤ n := by omega
      have e3 : n ≤ 1073741824 := by omega
      have HE := Lib.hid (show (0 ≤ who ∧ who < 8) ∧ 0 ≤ n ∧ n ≤ 1073741824 from ⟨⟨e0, e1⟩, e2, e3⟩)
      clear h hT ha hm h4 ht hat hb e0 e1 e2 e3
      go_enter Try.func79, Try.ntmps79
      go_wp2_with fail
      go_region
      go_wp2_with fail
      refine Calls.mono (strTwin_any (s := s) ?_ HF.out) ?_
      · exact HS.out.below (by repeat (first | (with_reducible exact Below.refl _ _) | (with_reducible exact Below.refl _ _) | (with_reducible apply Below.drew) | (with_reducible apply below_alloc) | ((with_reducible refine Below.alloc ?_ ?_ _); rotate_left; focus (first | (simp; done) | (simp; omega) | omega)) | ((with_reducible refine Below.setCell ?_ ?_ _); rotate_left; focus (first | (simp; done) | (simp; omega) | omega))))
      rintro e w1 ⟨ta, tc, rfl, os, hb⟩
      obtain ⟨a1, cap1, b1, nc1, cc1, ev, -, -⟩ := os.reads.shape
      cases ev
      clear d1 c0 c1 c2 c3
      have HB : Hid (Below w.heap.size w _) := below_step (by repeat (first | (with_reducible exact Below.refl _ _) | (with_reducible exact Below.refl _ _) | (with_reducible apply Below.drew) | (with_reducible apply below_alloc) | ((with_reducible refine Below.alloc ?_ ?_ _); rotate_left; focus (first | (simp; done) | (simp; omega) | omega)) | ((with_reducible refine Below.setCell ?_ ?_ _); rotate_left; focus (first | (simp; done) | (simp; omega) | omega)))) hb
      have P : Blk _ (w.heap.size) _ _ := Blk.step (by repeat (first | ((with_reducible apply Blk.new); focus (first | rfl | (simp; done) | (simp; omega))) | (with_reducible apply Blk.drew) | (with_reducible apply Blk.alloc) | (with_reducible apply Blk.set_) | ((with_reducible apply Blk.far); rotate_left; focus (first | (simp; done) | (simp; omega) | omega)))) hb
      obtain ⟨p0, p1, pz⟩ := cells2 P
      have pl := Blk.lt P
      have HP := Lib.hid P
      clear P
      have HC : Hid (Blk w1 (w.heap.size + 1) 47 [.int .u8 kind, .int .i64 mid, .slice ga gn gc, .int .i64 mt, .string mk, .string mb, .int .i64 id, .int .i64 time, .slice ma mn mc, .int .i64 (i : Int), .int .i64 who, .int .i64 n]) := Blk.step (by repeat (first | (with_reducible exact Blk.new rfl) | ((with_reducible apply Blk.new); focus (first | rfl | (simp; done) | (simp; omega))) | (with_reducible apply Blk.drew) | (with_reducible apply Blk.alloc) | (with_reducible apply Blk.set_) | ((with_reducible apply Blk.far); rotate_left; focus (first | (simp; done) | (simp; omega) | omega)))) hb
      have R : Blk _ (w.heap.size + 2) _ _ := Blk.step (by repeat (first | ((with_reducible apply Blk.new); focus (first | rfl | (simp; done) | (simp; omega))) | (with_reducible apply Blk.drew) | (with_reducible apply Blk.alloc) | (with_reducible apply Blk.set_) | ((with_reducible apply Blk.far); rotate_left; focus (first | (simp; done) | (simp; omega) | omega)))) hb
      obtain ⟨r0, r1, rz⟩ := cells2 R
      have rl := Blk.lt R
      have HR := Lib.hid R
      clear R
      obtain ⟨⟨-, -, -, d9, d10, d11⟩, dz⟩ := cells12 HC.out
      have cl := HC.out.lt
      obtain ⟨_, _, ev, ot, oc⟩ := os
      cases ev
      have OT : Hid (OwnT w1 (w.heap.size + 3) _ _) := ot.le (by simp)
      have OC : Hid (OwnC w1 (w.heap.size + 3) _ _) := OwnRows.le oc (by simp)
      clear hb ot oc
      go_wp2_with fail
      have OT1 := Lib.hid ((OT.out.far (b := w.heap.size) (o := 0) (u := .slice a1 s.tops.length cap1) (by omega)).far (b := w.heap.size) (o := 1) (u := .slice b1 nc1 cc1) (by omega))
      have OC1 := Lib.hid (OwnC.far (b := w.heap.size) (o := 1) (u := .slice b1 nc1 cc1) (OwnC.far (b := w.heap.size) (o := 0) (u := .slice a1 s.tops.length cap1) OC.out (by omega)) (by omega))
      refine Calls.mono (set_yes (m := s.coms) (i : Int) who n OC1.out.reads HOK.out h0 h1 HE.out.1.1 HE.out.1.2 HE.out.2.1 HE.out.2.2) ?_
      rintro e w2 ⟨vc, rfl, oc, hb⟩
      obtain ⟨ac, nac, cac, rfl⟩ := oc.reads.shape
      have hz : w.heap.size + 3 ≤ w1.heap.size := rl
      clear p0 p1 pz pl r0 r1 rz rl d9 d10 d11 dz cl
      have HB2 : Hid (Below w.heap.size w _) := below_step (by repeat (first | (with_reducible exact HB.out) | (with_reducible exact Below.refl _ _) | (with_reducible apply Below.drew) | (with_reducible apply below_alloc) | ((with_reducible refine Below.alloc ?_ ?_ _); rotate_left; focus (first | (simp; done) | (simp; omega) | omega)) | ((with_reducible refine Below.setCell ?_ ?_ _); rotate_left; focus (first | (simp; done) | (simp; omega) | omega)))) hb
      have P : Blk _ (w.heap.size) _ _ := Blk.step (by repeat (first | (with_reducible exact HP.out) | ((with_reducible apply Blk.new); focus (first | rfl | (simp; done) | (simp; omega))) | (with_reducible apply Blk.drew) | (with_reducible apply Blk.alloc) | (with_reducible apply Blk.set_) | ((with_reducible apply Blk.far); rotate_left; focus (first | (simp; done) | (simp; omega) | omega)))) hb
      try simp only [List.set_cons_zero, List.set_cons_succ] at P
      obtain ⟨p0, p1, pz⟩ := cells2 P
      have pl := Blk.lt P
      have HP := Lib.hid P
      clear P
      have R : Blk _ (w.heap.size + 2) _ _ := Blk.step (by repeat (first | (with_reducible exact HR.out) | ((with_reducible apply Blk.new); focus (first | rfl | (simp; done) | (simp; omega))) | (with_reducible apply Blk.drew) | (with_reducible apply Blk.alloc) | (with_reducible apply Blk.set_) | ((with_reducible apply Blk.far); rotate_left; focus (first | (simp; done) | (simp; omega) | omega)))) hb
      try simp only [List.set_cons_zero, List.set_cons_succ] at R
      obtain ⟨r0, r1, rz⟩ := cells2 R
      have rl := Blk.lt R
      have HR := Lib.hid R
      clear R
      have OT2 := Lib.hid (OT1.out.keep hb)
      have OC2 : Hid (OwnC w2 (w.heap.size + 3) _ _) := Lib.hid (OwnRows.le oc (by simp; omega))
      clear hb oc
      go_wp2_with fail
      have HP3 := HP.out.set_ 1 (.slice ac nac cac)
      have HR3 := HR.out.far (b := w.heap.size) (o := 1) (by omega) (.slice ac nac cac)
      have OT3 := OT2.out.far (b := w.heap.size) (o := 1) (u := .slice ac nac cac) (by omega)
      have OC3 := OwnC.far (b := w.heap.size) (o := 1) (u := .slice ac nac cac) OC2.out (by omega)
      have HR4 := HR3.set_ 0 (.slice a1 s.tops.length cap1)
      obtain ⟨t0, t1, -⟩ := cells2 (HR4.set_ 1 (.slice ac nac cac))
      refine bodyPost_ret (v := .tuple #[.agg #[.slice a1 s.tops.length cap1, .slice ac nac cac], .int .i64 0]) (by simp [results, Try.results79, go_sem, t0, t1]) rfl ⟨_, _, rfl, ⟨_, _, rfl, ?_, ?_⟩, ?_⟩
      · exact OwnT.le ((OT3.far (by omega)).far (by omega)) (by omega)
      · exact OwnRows.le (OwnC.far (OwnC.far OC3 (by omega)) (by omega)) (by omega)
      · exact ((HB2.out.setCell (p := ⟨w.heap.size, 1, none⟩) (by simp) _).setCell (p := ⟨w.heap.size + 2, 0, none⟩) (by simp) _).setCell (p := ⟨w.heap.size + 2, 1, none⟩) (by simp) _
end Go.Proofs.Ytblgmjbajnkcdab
/-
  stream.Do.
-/
namespace Go.Proofs.Ytblgmjbajnkcdab
open Go.RowKit

set_option maxHeartbeats 8000000 in
set_option maxRecDepth 100000 in
theorem strDo_any {v : Value} {s u : Str} {w : World} {x kind mid mt id time : Int} {ga ma : Option Addr} {gn gc mn mc : Nat} {mk mb : ByteArray} (topic who n : Int) (h : StrR w v s) (hk : strKeys s) (hu : doS s kind topic who n = (u, x)) :
    Calls Try.prog 40 #[v, .agg #[.int .u8 kind, .int .i64 mid, .slice ga gn gc, .int .i64 mt, .string mk, .string mb, .int .i64 id, .int .i64 time, .slice ma mn mc, .int .i64 topic, .int .i64 who, .int .i64 n]] w (DoEnd u x w) := by
  have HS := Lib.hid h
  have HK := Lib.hid hk
  obtain ⟨a, cap, bb, nc, cc, rfl, hT, -⟩ := h.shape
  by_cases ha : askS s topic = 0
  · rw [doS, if_pos ha] at hu
    have HA := Lib.hid ha
    by_cases k4 : kind = 4
    · rw [if_pos k4] at hu
      subst k4
      have HU := Lib.hid hu
      clear h hk hT ha hu
      go_enter Try.func40, Try.ntmps40
      go_wp2_with fail
      refine Calls.mono (strAsked_any topic ?_ HK.out HA.out) ?_
      · exact HS.out.below (by repeat (first | (with_reducible exact Below.refl _ _) | (with_reducible exact Below.refl _ _) | (with_reducible apply Below.drew) | (with_reducible apply below_alloc) | ((with_reducible refine Below.alloc ?_ ?_ _); rotate_left; focus (first | (simp; done) | (simp; omega) | omega)) | ((with_reducible refine Below.setCell ?_ ?_ _); rotate_left; focus (first | (simp; done) | (simp; omega) | omega))))
      rintro e w1 ⟨rfl, hb⟩
      have HB : Hid (Below w.heap.size w _) := below_step (by repeat (first | (with_reducible exact Below.refl _ _) | (with_reducible exact Below.refl _ _) | (with_reducible apply Below.drew) | (with_reducible apply below_alloc) | ((with_reducible refine Below.alloc ?_ ?_ _); rotate_left; focus (first | (simp; done) | (simp; omega) | omega)) | ((with_reducible refine Below.setCell ?_ ?_ _); rotate_left; focus (first | (simp; done) | (simp; omega) | omega)))) hb
      have P : Blk _ (w.heap.size) _ _ := Blk.step (by repeat (first | ((with_reducible apply Blk.new); focus (first | rfl | (simp; done) | (simp; omega))) | (with_reducible apply Blk.drew) | (with_reducible apply Blk.alloc) | (with_reducible apply Blk.set_) | ((with_reducible apply Blk.far); rotate_left; focus (first | (simp; done) | (simp; omega) | omega)))) hb
      obtain ⟨p0, p1, pz⟩ := cells2 P
      have pl := Blk.lt P
      have HP := Lib.hid P
      clear P
      have HC : Hid (Blk w1 (w.heap.size + 1) 47 [.int .u8 4, .int .i64 mid, .slice ga gn gc, .int .i64 mt, .string mk, .string mb, .int .i64 id, .int .i64 time, .slice ma mn mc, .int .i64 topic, .int .i64 who, .int .i64 n]) := Blk.step (by repeat (first | (with_reducible exact Blk.new rfl) | ((with_reducible apply Blk.new); focus (first | rfl | (simp; done) | (simp; omega))) | (with_reducible apply Blk.drew) | (with_reducible apply Blk.alloc) | (with_reducible apply Blk.set_) | ((with_reducible apply Blk.far); rotate_left; focus (first | (simp; done) | (simp; omega) | omega)))) hb
      have R : Blk _ (w.heap.size + 2) _ _ := Blk.step (by repeat (first | ((with_reducible apply Blk.new); focus (first | rfl | (simp; done) | (simp; omega))) | (with_reducible apply Blk.drew) | (with_reducible apply Blk.alloc) | (with_reducible apply Blk.set_) | ((with_reducible apply Blk.far); rotate_left; focus (first | (simp; done) | (simp; omega) | omega)))) hb
      obtain ⟨r0, r1, rz⟩ := cells2 R
      have rl := Blk.lt R
      have HR := Lib.hid R
      clear R
      obtain ⟨⟨⟨d0, d1, d2, d3⟩, ⟨d4, d5, d6, d7⟩, d8, d9, d10, d11⟩, dz⟩ := cells12 HC.out
      have cl := HC.out.lt
      clear hb
      go_wp2_with fail
      refine Calls.mono (strCommit_any topic who n ?_ HA.out HU.out) ?_
      · exact HS.out.below (by repeat (first | (with_reducible exact HB.out) | (with_reducible exact Below.refl _ _) | (with_reducible apply Below.drew) | (with_reducible apply below_alloc) | ((with_reducible refine Below.alloc ?_ ?_ _); rotate_left; focus (first | (simp; done) | (simp; omega) | omega)) | ((with_reducible refine Below.setCell ?_ ?_ _); rotate_left; focus (first | (simp; done) | (simp; omega) | omega))))
      rintro e w2 ⟨ta, tc, rfl, os, hb⟩
      obtain ⟨a3, cap3, b3, nc3, cc3, ev, -, -⟩ := os.reads.shape
      cases ev
      clear p0 p1 pz pl d0 d1 d2 d3 d4 d5 d6 d7 d8 d9 d10 d11 dz cl r0 r1 rz
      have HB2 : Hid (Below w.heap.size w _) := below_step (by repeat (first | (with_reducible exact HB.out) | (with_reducible exact Below.refl _ _) | (with_reducible apply Below.drew) | (with_reducible apply below_alloc) | ((with_reducible refine Below.alloc ?_ ?_ _); rotate_left; focus (first | (simp; done) | (simp; omega) | omega)) | ((with_reducible refine Below.setCell ?_ ?_ _); rotate_left; focus (first | (simp; done) | (simp; omega) | omega)))) hb
      have hz : w.heap.size + 2 < w1.heap.size := rl
      clear rl
      have R : Blk _ (w.heap.size + 2) _ _ := Blk.step (by repeat (first | (with_reducible exact HR.out) | ((with_reducible apply Blk.new); focus (first | rfl | (simp; done) | (simp; omega))) | (with_reducible apply Blk.drew) | (with_reducible apply Blk.alloc) | (with_reducible apply Blk.set_) | ((with_reducible apply Blk.far); rotate_left; focus (first | (simp; done) | (simp; omega) | omega)))) hb
      try simp only [List.set_cons_zero, List.set_cons_succ] at R
      obtain ⟨r0, r1, rz⟩ := cells2 R
      have rl := Blk.lt R
      have HR := Lib.hid R
      clear R
      have OS : Hid (OwnS w2 w.heap.size _ u) := Lib.hid (os.le (by omega))
      clear hb os
      go_wp2_with fail
      have HR3 := HR.out.set_ 0 (.slice a3 u.tops.length cap3)
      obtain ⟨t0, t1, -⟩ := cells2 (HR3.set_ 1 (.slice b3 nc3 cc3))
      refine bodyPost_ret (v := .tuple #[.agg #[.slice a3 u.tops.length cap3, .slice b3 nc3 cc3], .int .i64 x]) (by simp [results, Try.results40, go_sem, t0, t1]) rfl ⟨_, _, rfl, ?_, ?_⟩
      · exact (OS.out.blk HR.out (by decide) (by decide) (by decide) (by decide)).blk HR3 (by decide) (by decide) (by decide) (by decide)
      · exact (HB2.out.setCell (p := ⟨w.heap.size + 2, 0, none⟩) (by simp) _).setCell (p := ⟨w.heap.size + 2, 1, none⟩) (by simp) _
    · rw [if_neg k4] at hu
      have hd4 : ¬ kind = 4 := k4
      by_cases k56 : kind = 5 ∨ kind = 6
      · obtain ⟨r, hr⟩ : ∃ r, (if kind = 5 then trimP (topN s topic) n else compactP (topN s topic) n) = r := ⟨_, rfl⟩
        have hu' : turnS s topic r = (u, x) := by
          rw [← hr]
          rcases k56 with k | k
          · rw [if_pos k] at hu ⊢; exact hu
          · rw [if_neg (by omega : ¬ kind = 5), if_pos k] at hu; rw [if_neg (by omega : ¬ kind = 5)]; exact hu
        obtain ⟨t', f⟩ := r
        obtain ⟨hm, h0, h1⟩ := askS_zero.1 ha
        have h4 := hm.1.1
        have HF := Lib.hid (few_of_may hm)
        have HKT := Lib.hid (hk _ (topN_mem hm h0 h1))
        obtain ⟨i, rfl⟩ : ∃ i : Nat, topic = (i : Int) := ⟨topic.toNat, by omega⟩
        have HI := Lib.hid (show i < s.tops.length by omega)
        obtain ⟨⟨-, hcap, hmx⟩, g, off, rfl, hat⟩ := StrR.top hT (i := i) h0 (by omega)
        rw [show s.tops.getD (i : Int).toNat default = topN s i from rfl] at hat
        obtain ⟨t, ht⟩ : ∃ t, t = topN s i := ⟨_, rfl⟩
        rw [← ht] at hat hr HKT
        rw [turnS] at hu'
        simp only [Int.toNat_natCast] at hu' hat
        have HU := Lib.hid hu'
        unfold maxLen at hmx
        have HAT := Lib.hid hat
        have h5 : (i : Int) < (s.tops.length : Int) := by omega
        have h6 : (s.tops.length : Int) = 4 := by omega
        have hgw : g < w.heap.size := World.block_lt_of_cell? w _ hat.choose_spec.choose_spec.1.1.1.1
        have HR0 := Lib.hid hr
        have HK56 := Lib.hid k56
        clear h hk hT ha hm h4 hu hu' ht hat hr k56 hd4 k4
        rcases HK56.out with rfl | rfl
        all_goals
          first
            | (have CT : Hid (∀ W : World, ∀ {v : Value}, TopR W v t → Calls Try.prog 80 #[v, .int .i64 n] W (TopEnd1 t' f W)) := Lib.hid (fun W v hW => trim_any n hW HKT.out (by have := HR0.out; rwa [if_pos rfl] at this)))
            | (have CT : Hid (∀ W : World, ∀ {v : Value}, TopR W v t → Calls Try.prog 81 #[v, .int .i64 n] W (TopEnd1 t' f W)) := Lib.hid (fun W v hW => compact_any n hW HKT.out (by have := HR0.out; rwa [if_neg (by decide)] at this)))
          go_enter Try.func40, Try.ntmps40
          go_wp2_with fail
          refine Calls.mono (strAsked_any (i : Int) ?_ HK.out HA.out) ?_
          · exact HS.out.below (by repeat (first | (with_reducible exact Below.refl _ _) | (with_reducible exact Below.refl _ _) | (with_reducible apply Below.drew) | (with_reducible apply below_alloc) | ((with_reducible refine Below.alloc ?_ ?_ _); rotate_left; focus (first | (simp; done) | (simp; omega) | omega)) | ((with_reducible refine Below.setCell ?_ ?_ _); rotate_left; focus (first | (simp; done) | (simp; omega) | omega))))
          rintro e w1 ⟨rfl, hb⟩
          have HB : Hid (Below w.heap.size w _) := below_step (by repeat (first | (with_reducible exact Below.refl _ _) | (with_reducible exact Below.refl _ _) | (with_reducible apply Below.drew) | (with_reducible apply below_alloc) | ((with_reducible refine Below.alloc ?_ ?_ _); rotate_left; focus (first | (simp; done) | (simp; omega) | omega)) | ((with_reducible refine Below.setCell ?_ ?_ _); rotate_left; focus (first | (simp; done) | (simp; omega) | omega)))) hb
          have P : Blk _ (w.heap.size) _ _ := Blk.step (by repeat (first | ((with_reducible apply Blk.new); focus (first | rfl | (simp; done) | (simp; omega))) | (with_reducible apply Blk.drew) | (with_reducible apply Blk.alloc) | (with_reducible apply Blk.set_) | ((with_reducible apply Blk.far); rotate_left; focus (first | (simp; done) | (simp; omega) | omega)))) hb
          obtain ⟨p0, p1, pz⟩ := cells2 P
          have pl := Blk.lt P
          have HP := Lib.hid P
          clear P
          have HC : Hid (Blk w1 (w.heap.size + 1) 47 _) := Blk.step (by repeat (first | (with_reducible exact Blk.new rfl) | ((with_reducible apply Blk.new); focus (first | rfl | (simp; done) | (simp; omega))) | (with_reducible apply Blk.drew) | (with_reducible apply Blk.alloc) | (with_reducible apply Blk.set_) | ((with_reducible apply Blk.far); rotate_left; focus (first | (simp; done) | (simp; omega) | omega)))) hb
          have R : Blk _ (w.heap.size + 2) _ _ := Blk.step (by repeat (first | ((with_reducible apply Blk.new); focus (first | rfl | (simp; done) | (simp; omega))) | (with_reducible apply Blk.drew) | (with_reducible apply Blk.alloc) | (with_reducible apply Blk.set_) | ((with_reducible apply Blk.far); rotate_left; focus (first | (simp; done) | (simp; omega) | omega)))) hb
          obtain ⟨r0, r1, rz⟩ := cells2 R
          have rl := Blk.lt R
          have HR := Lib.hid R
          clear R
          obtain ⟨⟨⟨d0, d1, d2, d3⟩, ⟨d4, d5, d6, d7⟩, d8, d9, d10, d11⟩, dz⟩ := cells12 HC.out
          have cl := HC.out.lt
          clear d1 d2 d3 d4 d5 d6 d7 d8 d10
          obtain ⟨ea, ecap, ⟨⟨⟨c0, c1⟩, c2⟩, c3⟩, hTT⟩ := HAT.out.keep HB.out
          have T := Lib.hid hTT
          clear hb hTT
          go_wp2_with fail
          have KS : Hid (∀ W' : World, Below w1.heap.size w1 W' → (W'.cell? ⟨w.heap.size, 0, none⟩ = some (.slice (some ⟨g, off, none⟩) s.tops.length cap) ∧ (W'.cell? ⟨w.heap.size + 1, 9, none⟩ = some (.int .i64 (i : Int)) ∧ W'.cell? ⟨w.heap.size + 1, 11, none⟩ = some (.int .i64 n))) ∧ ((W'.cell? ⟨g, off + i * 4, none⟩ = some (.int .i64 t.base) ∧ W'.cell? ⟨g, off + i * 4 + 1, none⟩ = some (.int .i64 t.next)) ∧ W'.cell? ⟨g, off + i * 4 + 2, none⟩ = some (.int .i64 t.mark) ∧ W'.cell? ⟨g, off + i * 4 + 3, none⟩ = some (.slice ea t.ents.length ecap))) := fun W' hb => by
            have c := fun (p : Addr) (hp : p.block < w1.heap.size) => hb.cell hp
            refine ⟨⟨(c _ ?_).trans p0, (c _ ?_).trans d9, (c _ ?_).trans d11⟩, ⟨(c _ ?_).trans c0, (c _ ?_).trans c1⟩, (c _ ?_).trans c2, (c _ ?_).trans c3⟩ <;> (simp only []; omega)
          have KT := KS.out w1 (Below.refl _ _)
          go_region_held3 (fun W' => (W'.cell? ⟨w.heap.size, 0, none⟩ = some (.slice (some ⟨g, off, none⟩) s.tops.length cap) ∧ (W'.cell? ⟨w.heap.size + 1, 9, none⟩ = some (.int .i64 (i : Int)) ∧ W'.cell? ⟨w.heap.size + 1, 11, none⟩ = some (.int .i64 n))) ∧ ((W'.cell? ⟨g, off + i * 4, none⟩ = some (.int .i64 t.base) ∧ W'.cell? ⟨g, off + i * 4 + 1, none⟩ = some (.int .i64 t.next)) ∧ W'.cell? ⟨g, off + i * 4 + 2, none⟩ = some (.int .i64 t.mark) ∧ W'.cell? ⟨g, off + i * 4 + 3, none⟩ = some (.slice ea t.ents.length ecap)))
            (first | (with_reducible exact KT) | (refine KS.out _ ?_; done) | (refine KS.out _ ?_; (repeat (first | (with_reducible exact Below.refl _ _) | (with_reducible exact Below.refl _ _) | (with_reducible apply Below.drew) | (with_reducible apply below_alloc) | ((with_reducible refine Below.alloc ?_ ?_ _); rotate_left; focus (first | (simp; done) | (simp; omega) | omega)) | ((with_reducible refine Below.setCell ?_ ?_ _); rotate_left; focus (first | (simp; done) | (simp; omega) | omega)))); done) | (refine KS.out _ ?_; (repeat (first | (with_reducible exact HQ.out) | (with_reducible exact Below.refl _ _) | (with_reducible apply Below.drew) | (with_reducible apply below_alloc) | ((with_reducible refine Below.alloc ?_ ?_ _); rotate_left; focus (first | (simp; done) | (simp; omega) | omega)) | ((with_reducible refine Below.setCell ?_ ?_ _); rotate_left; focus (first | (simp; done) | (simp; omega) | omega)))); done))
            (first | (go_at_call 80; refine (CT.out _ (T.out.below (Below.drew (Below.refl _ _)))).mono ?_; rintro e w2 ⟨ad2, cp2, rfl, ow2, hb⟩; have HQ : Hid (Below w1.heap.size w1 w2) := below_step (Below.drew (Below.refl _ _)) hb; have O2 : Hid (OwnE w2 w1.heap.size _ _) := Lib.hid (own_base ow2 (by simp)); clear hb ow2) | (go_at_call 80; refine (CT.out _ (T.out.below (Below.drew (below_alloc (Below.refl _ _))))).mono ?_; rintro e w2 ⟨ad2, cp2, rfl, ow2, hb⟩; have HQ : Hid (Below w1.heap.size w1 w2) := below_step (Below.drew (below_alloc (Below.refl _ _))) hb; have HY := Lib.hid (Blk.step (Blk.drew (Blk.new (w := w1) (t := 70) (cs := [.int .i64 0, .int .i64 0, .int .i64 0, .slice none 0 0]) rfl)) hb); obtain ⟨y0, y1, y2, y3, yz⟩ := cells4 HY.out; have O2 : Hid (OwnE w2 (w1.heap.size + 1) _ _) := Lib.hid (own_base ow2 (by simp)); clear hb ow2) | (go_at_call 81; refine (CT.out _ (T.out.below (Below.drew (Below.refl _ _)))).mono ?_; rintro e w2 ⟨ad2, cp2, rfl, ow2, hb⟩; have HQ : Hid (Below w1.heap.size w1 w2) := below_step (Below.drew (Below.refl _ _)) hb; have O2 : Hid (OwnE w2 w1.heap.size _ _) := Lib.hid (own_base ow2 (by simp)); clear hb ow2) | (go_at_call 81; refine (CT.out _ (T.out.below (Below.drew (below_alloc (Below.refl _ _))))).mono ?_; rintro e w2 ⟨ad2, cp2, rfl, ow2, hb⟩; have HQ : Hid (Below w1.heap.size w1 w2) := below_step (Below.drew (below_alloc (Below.refl _ _))) hb; have HY := Lib.hid (Blk.step (Blk.drew (Blk.new (w := w1) (t := 70) (cs := [.int .i64 0, .int .i64 0, .int .i64 0, .slice none 0 0]) rfl)) hb); obtain ⟨y0, y1, y2, y3, yz⟩ := cells4 HY.out; have O2 : Hid (OwnE w2 (w1.heap.size + 1) _ _) := Lib.hid (own_base ow2 (by simp)); clear hb ow2))
          all_goals
            have HP2 := Lib.hid (HP.out.below HQ.out pl)
            have HC2 := Lib.hid (HC.out.below HQ.out cl)
            have HR2 := Lib.hid (HR.out.below HQ.out rl)
            have HB2 : Hid (Below w.heap.size w w2) := Lib.hid (HB.out.trans (HQ.out.mono (by omega)))
            have hw2 : w1.heap.size ≤ w2.heap.size := HQ.out.size
            clear p0 p1 pz d0 d9 d11 dz r0 r1 rz c0 c1 c2 c3 HP HC HR KS KT
            obtain ⟨p0, p1, pz⟩ := cells2 HP2.out
            obtain ⟨⟨-, -, -, d9, -, -⟩, dz⟩ := cells12 HC2.out
            obtain ⟨r0, r1, rz⟩ := cells2 HR2.out
            have pl2 := HP2.out.lt
            have cl2 := HC2.out.lt
            have rl2 := HR2.out.lt
            have hu := HU.out
            by_cases hf : f = 0
            · subst hf
              simp only [if_true] at hu
              cases hu
              go_wp2_with fail
              refine Calls.mono (with_any (B := w.heap.size) i ?_ HF.out HI.out ?_ ?_) ?_
              · exact HS.out.below (by repeat (first | (with_reducible exact HB2.out) | (with_reducible exact Below.refl _ _) | (with_reducible apply Below.drew) | (with_reducible apply below_alloc) | ((with_reducible refine Below.alloc ?_ ?_ _); rotate_left; focus (first | (simp; done) | (simp; omega) | omega)) | ((with_reducible refine Below.setCell ?_ ?_ _); rotate_left; focus (first | (simp; done) | (simp; omega) | omega))))
              · first
                  | (refine own_base (B := w1.heap.size + 1) ?_ (by omega); (repeat (first | (with_reducible exact O2.out) | (with_reducible apply own_drew) | (with_reducible apply own_alloc) | ((with_reducible apply own_set); rotate_left; focus (first | (simp; done) | (simp; omega) | omega)))); done)
                  | (refine own_base (B := w1.heap.size) ?_ (by omega); (repeat (first | (with_reducible exact O2.out) | (with_reducible apply own_drew) | (with_reducible apply own_alloc) | ((with_reducible apply own_set); rotate_left; focus (first | (simp; done) | (simp; omega) | omega)))); done)
              · first | omega | (simp; omega)
              rintro e w3 ⟨ta, tc, rfl, os, hb⟩
              obtain ⟨a3, cap3, b3, nc3, cc3, ev, -, -⟩ := os.reads.shape
              cases ev
              clear r0 r1 rz
              have HB3 : Hid (Below w.heap.size w _) := below_step (by repeat (first | (with_reducible exact HB2.out) | (with_reducible exact Below.refl _ _) | (with_reducible apply Below.drew) | (with_reducible apply below_alloc) | ((with_reducible refine Below.alloc ?_ ?_ _); rotate_left; focus (first | (simp; done) | (simp; omega) | omega)) | ((with_reducible refine Below.setCell ?_ ?_ _); rotate_left; focus (first | (simp; done) | (simp; omega) | omega)))) hb
              have R : Blk _ (w.heap.size + 2) _ _ := Blk.step (by repeat (first | (with_reducible exact HR2.out) | ((with_reducible apply Blk.new); focus (first | rfl | (simp; done) | (simp; omega))) | (with_reducible apply Blk.drew) | (with_reducible apply Blk.alloc) | (with_reducible apply Blk.set_) | ((with_reducible apply Blk.far); rotate_left; focus (first | (simp; done) | (simp; omega) | omega)))) hb
              try simp only [List.set_cons_zero, List.set_cons_succ] at R
              obtain ⟨r0, r1, rz⟩ := cells2 R
              have rl := Blk.lt R
              have HR := Lib.hid R
              clear R
              have e3 : (s.tops.set i t').length = s.tops.length := List.length_set ..
              have OS : Hid (OwnS w3 w.heap.size (.agg #[.slice a3 s.tops.length cap3, .slice b3 nc3 cc3]) ⟨s.tops.set i t', s.coms⟩) := Lib.hid (by rw [← e3]; exact os)
              clear hb os e3
              go_wp2_with fail
              have HR3 := HR.out.set_ 0 (.slice a3 s.tops.length cap3)
              obtain ⟨t0, t1, -⟩ := cells2 (HR3.set_ 1 (.slice b3 nc3 cc3))
              refine bodyPost_ret (v := .tuple #[.agg #[.slice a3 s.tops.length cap3, .slice b3 nc3 cc3], .int .i64 0]) (by simp [results, Try.results40, go_sem, t0, t1]) rfl ⟨_, _, rfl, ?_, ?_⟩
              · exact (OS.out.blk HR.out (by decide) (by decide) (by decide) (by decide)).blk HR3 (by decide) (by decide) (by decide) (by decide)
              · exact (HB3.out.setCell (p := ⟨w.heap.size + 2, 0, none⟩) (by simp) _).setCell (p := ⟨w.heap.size + 2, 1, none⟩) (by simp) _
            · have hd : (f != 0) = true := by simpa using hf
              rw [if_neg hf] at hu
              cases hu
              go_wp2_with fail
              first
                | (obtain ⟨t0, t1, -⟩ := cells2 (((HR2.out.set_ 0 (.slice none 0 0)).set_ 1 (.slice none 0 0)).alloc (.cells #[.int .i64 t'.base, .int .i64 t'.next, .int .i64 t'.mark, .slice ad2 t'.ents.length cp2] 70)); refine bodyPost_ret (v := .tuple #[.agg #[.slice none 0 0, .slice none 0 0], .int .i64 x]) ?_ rfl ⟨_, _, rfl, OwnS.zero _ _, ?_⟩; focus (simp [results, Try.results40, go_sem, t0, t1]; done))
                | (obtain ⟨t0, t1, -⟩ := cells2 ((((((HR2.out.far (b := w1.heap.size) (o := 0) (by omega) (.int .i64 t'.base)).far (b := w1.heap.size) (o := 1) (by omega) (.int .i64 t'.next)).far (b := w1.heap.size) (o := 2) (by omega) (.int .i64 t'.mark)).far (b := w1.heap.size) (o := 3) (by omega) (.slice ad2 t'.ents.length cp2)).set_ 0 (.slice none 0 0)).set_ 1 (.slice none 0 0)); refine bodyPost_ret (v := .tuple #[.agg #[.slice none 0 0, .slice none 0 0], .int .i64 x]) ?_ rfl ⟨_, _, rfl, OwnS.zero _ _, ?_⟩; focus (simp [results, Try.results40, go_sem, t0, t1]; done))
              repeat (first | (with_reducible exact HB2.out) | (with_reducible exact Below.refl _ _) | (with_reducible apply Below.drew) | (with_reducible apply below_alloc) | ((with_reducible refine Below.alloc ?_ ?_ _); rotate_left; focus (first | (simp; done) | (simp; omega) | omega)) | ((with_reducible refine Below.setCell ?_ ?_ _); rotate_left; focus (first | (simp; done) | (simp; omega) | omega)))
      · have k5 : ¬ kind = 5 := by omega
        have k6 : ¬ kind = 6 := by omega
        rw [if_neg k5, if_neg k6] at hu
        cases hu
        clear h hk hT ha k56 hd4
        go_enter Try.func40, Try.ntmps40
        go_wp2_with fail
        refine Calls.mono (strAsked_any topic ?_ HK.out HA.out) ?_
        · exact HS.out.below (by repeat (first | (with_reducible exact Below.refl _ _) | (with_reducible exact Below.refl _ _) | (with_reducible apply Below.drew) | (with_reducible apply below_alloc) | ((with_reducible refine Below.alloc ?_ ?_ _); rotate_left; focus (first | (simp; done) | (simp; omega) | omega)) | ((with_reducible refine Below.setCell ?_ ?_ _); rotate_left; focus (first | (simp; done) | (simp; omega) | omega))))
        rintro e w1 ⟨rfl, hb⟩
        have HB : Hid (Below w.heap.size w _) := below_step (by repeat (first | (with_reducible exact Below.refl _ _) | (with_reducible exact Below.refl _ _) | (with_reducible apply Below.drew) | (with_reducible apply below_alloc) | ((with_reducible refine Below.alloc ?_ ?_ _); rotate_left; focus (first | (simp; done) | (simp; omega) | omega)) | ((with_reducible refine Below.setCell ?_ ?_ _); rotate_left; focus (first | (simp; done) | (simp; omega) | omega)))) hb
        have HC : Hid (Blk w1 (w.heap.size + 1) 47 _) := Blk.step (by repeat (first | (with_reducible exact Blk.new rfl) | ((with_reducible apply Blk.new); focus (first | rfl | (simp; done) | (simp; omega))) | (with_reducible apply Blk.drew) | (with_reducible apply Blk.alloc) | (with_reducible apply Blk.set_) | ((with_reducible apply Blk.far); rotate_left; focus (first | (simp; done) | (simp; omega) | omega)))) hb
        have R : Blk _ (w.heap.size + 2) _ _ := Blk.step (by repeat (first | ((with_reducible apply Blk.new); focus (first | rfl | (simp; done) | (simp; omega))) | (with_reducible apply Blk.drew) | (with_reducible apply Blk.alloc) | (with_reducible apply Blk.set_) | ((with_reducible apply Blk.far); rotate_left; focus (first | (simp; done) | (simp; omega) | omega)))) hb
        obtain ⟨r0, r1, rz⟩ := cells2 R
        have rl := Blk.lt R
        have HR := Lib.hid R
        clear R
        obtain ⟨⟨⟨d0, -, -, -⟩, -, -, -, -, -⟩, dz⟩ := cells12 HC.out
        clear hb
        go_wp2_with fail
        refine bodyPost_ret (v := .tuple #[.agg #[.slice none 0 0, .slice none 0 0], .int .i64 2]) (by simp [results, Try.results40, go_sem, r0, r1]) rfl ⟨_, _, rfl, OwnS.zero _ _, ?_⟩
        repeat (first | (with_reducible exact HB.out) | (with_reducible exact Below.refl _ _) | (with_reducible apply Below.drew) | (with_reducible apply below_alloc) | ((with_reducible refine Below.alloc ?_ ?_ _); rotate_left; focus (first | (simp; done) | (simp; omega) | omega)) | ((with_reducible refine Below.setCell ?_ ?_ _); rotate_left; focus (first | (simp; done) | (simp; omega) | omega)))
  · rw [doS, if_neg ha] at hu
    injection hu with hx hz
    subst hx
    have HA := Lib.hid hz
    have hd : (x != 0) = true := by rw [← hz]; simpa using ha
    clear h hk hT ha hz
    go_enter Try.func40, Try.ntmps40
    go_wp2_with fail
    refine Calls.mono (strAsked_any topic ?_ HK.out HA.out) ?_
    · exact HS.out.below (by repeat (first | (with_reducible exact Below.refl _ _) | (with_reducible exact Below.refl _ _) | (with_reducible apply Below.drew) | (with_reducible apply below_alloc) | ((with_reducible refine Below.alloc ?_ ?_ _); rotate_left; focus (first | (simp; done) | (simp; omega) | omega)) | ((with_reducible refine Below.setCell ?_ ?_ _); rotate_left; focus (first | (simp; done) | (simp; omega) | omega))))
    rintro e w1 ⟨rfl, hb⟩
    have HB : Hid (Below w.heap.size w _) := below_step (by repeat (first | (with_reducible exact Below.refl _ _) | (with_reducible exact Below.refl _ _) | (with_reducible apply Below.drew) | (with_reducible apply below_alloc) | ((with_reducible refine Below.alloc ?_ ?_ _); rotate_left; focus (first | (simp; done) | (simp; omega) | omega)) | ((with_reducible refine Below.setCell ?_ ?_ _); rotate_left; focus (first | (simp; done) | (simp; omega) | omega)))) hb
    have R : Blk _ (w.heap.size + 2) _ _ := Blk.step (by repeat (first | ((with_reducible apply Blk.new); focus (first | rfl | (simp; done) | (simp; omega))) | (with_reducible apply Blk.drew) | (with_reducible apply Blk.alloc) | (with_reducible apply Blk.set_) | ((with_reducible apply Blk.far); rotate_left; focus (first | (simp; done) | (simp; omega) | omega)))) hb
    obtain ⟨r0, r1, rz⟩ := cells2 R
    have rl := Blk.lt R
    have HR := Lib.hid R
    clear R
    clear hb
    go_wp2_with fail
    refine bodyPost_ret (v := .tuple #[.agg #[.slice none 0 0, .slice none 0 0], .int .i64 x]) (by simp [results, Try.results40, go_sem, r0, r1]) rfl ⟨_, _, rfl, OwnS.zero _ _, ?_⟩
    repeat (first | (with_reducible exact HB.out) | (with_reducible exact Below.refl _ _) | (with_reducible apply Below.drew) | (with_reducible apply below_alloc) | ((with_reducible refine Below.alloc ?_ ?_ _); rotate_left; focus (first | (simp; done) | (simp; omega) | omega)) | ((with_reducible refine Below.setCell ?_ ?_ _); rotate_left; focus (first | (simp; done) | (simp; omega) | omega)))
end Go.Proofs.Ytblgmjbajnkcdab
/-
  How messages and commands read: from the form's reading to numbers and strings. No program in sight but its types.
-/
namespace Go.Proofs.Ytblgmjbajnkcdab
open Go.RowKit Go.Deep Go.WideShapes Go.ChangeShapes

structure Msg where
  id : Int
  ga : Option Addr
  gn : Nat
  gc : Nat
  topic : Int
  key : ByteArray
  body : ByteArray
structure Cmd where
  kind : Int
  msg : Msg
  id : Int
  time : Int
  ma : Option Addr
  mn : Nat
  mc : Nat
  topic : Int
  who : Int
  n : Int
instance : Inhabited Msg := ⟨⟨0, none, 0, 0, 0, ⟨#[]⟩, ⟨#[]⟩⟩⟩
instance : Inhabited Cmd := ⟨⟨0, default, 0, 0, none, 0, 0, 0, 0, 0⟩⟩
def msgCells (m : Msg) : List Value := [.int .i64 m.id, .slice m.ga m.gn m.gc, .int .i64 m.topic, .string m.key, .string m.body]
def msgVal (m : Msg) : Value := .agg #[.int .i64 m.id, .slice m.ga m.gn m.gc, .int .i64 m.topic, .string m.key, .string m.body]
def cmdCells (c : Cmd) : List Value := [.int .u8 c.kind, .int .i64 c.msg.id, .slice c.msg.ga c.msg.gn c.msg.gc, .int .i64 c.msg.topic, .string c.msg.key, .string c.msg.body, .int .i64 c.id, .int .i64 c.time, .slice c.ma c.mn c.mc, .int .i64 c.topic, .int .i64 c.who, .int .i64 c.n]
def cmdVal (c : Cmd) : Value := .agg #[.int .u8 c.kind, .int .i64 c.msg.id, .slice c.msg.ga c.msg.gn c.msg.gc, .int .i64 c.msg.topic, .string c.msg.key, .string c.msg.body, .int .i64 c.id, .int .i64 c.time, .slice c.ma c.mn c.mc, .int .i64 c.topic, .int .i64 c.who, .int .i64 c.n]
def msgOk (m : Msg) : Prop := (ok64 m.id ∧ ok64 m.topic) ∧ m.key.size ≤ reachBytes ∧ m.body.size ≤ reachBytes
def cmdOk (c : Cmd) : Prop := ((Lit.int .u8 c.kind).wf = true ∧ msgOk c.msg) ∧ (ok64 c.topic ∧ ok64 c.who) ∧ ok64 c.n ∧ (ok64 c.id ∧ ok64 c.time)
theorem cmdCells_len (c : Cmd) : (cmdCells c).length = 12 := rfl

/-- The types that a message needs. -/
structure MsgTypes (P : Program) (t tl ti ts : TypeId) (f0 f1 f2 f3 f4 : Field) : Prop where
  ht : P.underlying t = some (.struct #[f0, f1, f2, f3, f4])
  hc : P.cellsOf t = 5
  hl : P.underlying tl = some (.slice ti)
  hcl : P.cellsOf tl = 1
  hi : P.underlying ti = some (.int .i64)
  hci : P.cellsOf ti = 1
  hs : P.underlying ts = some .string
  hcs : P.cellsOf ts = 1
  e0 : f0.type = ti ∧ f0.offset = 0
  e1 : f1.type = tl ∧ f1.offset = 1
  e2 : f2.type = ti ∧ f2.offset = 2
  e3 : f3.type = ts ∧ f3.offset = 3
  e4 : f4.type = ts ∧ f4.offset = 4
/-- The types that a command needs. -/
structure CmdTypes (P : Program) (t tm tk tl ti : TypeId) (f0 f1 f2 f3 f4 f5 f6 f7 : Field) : Prop where
  ht : P.underlying t = some (.struct #[f0, f1, f2, f3, f4, f5, f6, f7])
  hc : P.cellsOf t = 12
  hk : P.underlying tk = some (.int .u8)
  hck : P.cellsOf tk = 1
  e0 : f0.type = tk ∧ f0.offset = 0
  e1 : f1.type = tm ∧ f1.offset = 1
  e2 : f2.type = ti ∧ f2.offset = 6
  e3 : f3.type = ti ∧ f3.offset = 7
  e4 : f4.type = tl ∧ f4.offset = 8
  e5 : f5.type = ti ∧ f5.offset = 9
  e6 : f6.type = ti ∧ f6.offset = 10
  e7 : f7.type = ti ∧ f7.offset = 11

theorem Reads.msg {P : Program} {w : World} {t tl ti ts : TypeId} {cs : List Value} {f0 f1 f2 f3 f4 : Field} (h : Reads P w t cs) (T : MsgTypes P t tl ti ts f0 f1 f2 f3 f4) : ∃ m, cs = msgCells m ∧ msgOk m := by
  obtain ⟨hl, hf⟩ := h.struct T.ht
  rw [T.hc] at hl
  have r0 := hf 0 f0 rfl
  have r1 := hf 1 f1 rfl
  have r2 := hf 2 f2 rfl
  have r3 := hf 3 f3 rfl
  have r4 := hf 4 f4 rfl
  rw [T.e0.1, T.e0.2, T.hci] at r0
  rw [T.e1.1, T.e1.2, T.hcl] at r1
  rw [T.e2.1, T.e2.2, T.hci] at r2
  rw [T.e3.1, T.e3.2, T.hcs] at r3
  rw [T.e4.1, T.e4.2, T.hcs] at r4
  obtain ⟨a, ha, wa⟩ := r0.int T.hi
  obtain ⟨ga, gn, gc, hg, _⟩ := r1.slice T.hl (by rw [T.hci]; omega)
  obtain ⟨b, hb, wb⟩ := r2.int T.hi
  obtain ⟨s, hs', ws⟩ := r3.string T.hs
  obtain ⟨u, hu, wu⟩ := r4.string T.hs
  match cs, hl with
  | [c0, c1, c2, c3, c4], _ =>
    simp at ha hg hb hs' hu
    subst ha hg hb hs' hu
    exact ⟨⟨a, ga, gn, gc, b, s, u⟩, rfl, ⟨wa, wb⟩, ws, wu⟩
theorem Reads.cmd {P : Program} {w : World} {t tm tk tl ti ts : TypeId} {cs : List Value} {f0 f1 f2 f3 f4 f5 f6 f7 g0 g1 g2 g3 g4 : Field} (h : Reads P w t cs) (C : CmdTypes P t tm tk tl ti f0 f1 f2 f3 f4 f5 f6 f7) (T : MsgTypes P tm tl ti ts g0 g1 g2 g3 g4) : ∃ c, cs = cmdCells c ∧ cmdOk c := by
  obtain ⟨hl, hf⟩ := h.struct C.ht
  rw [C.hc] at hl
  have r0 := hf 0 f0 rfl
  have r1 := hf 1 f1 rfl
  have r2 := hf 2 f2 rfl
  have r3 := hf 3 f3 rfl
  have r4 := hf 4 f4 rfl
  have r5 := hf 5 f5 rfl
  have r6 := hf 6 f6 rfl
  have r7 := hf 7 f7 rfl
  rw [C.e0.1, C.e0.2, C.hck] at r0
  rw [C.e1.1, C.e1.2, T.hc] at r1
  rw [C.e2.1, C.e2.2, T.hci] at r2
  rw [C.e3.1, C.e3.2, T.hci] at r3
  rw [C.e4.1, C.e4.2, T.hcl] at r4
  rw [C.e5.1, C.e5.2, T.hci] at r5
  rw [C.e6.1, C.e6.2, T.hci] at r6
  rw [C.e7.1, C.e7.2, T.hci] at r7
  obtain ⟨k, hk, wk⟩ := r0.int C.hk
  obtain ⟨m, hm, wm⟩ := r1.msg T
  obtain ⟨a, ha, wa⟩ := r2.int T.hi
  obtain ⟨b, hb, wb⟩ := r3.int T.hi
  obtain ⟨ga, gn, gc, hg, _⟩ := r4.slice T.hl (by rw [T.hci]; omega)
  obtain ⟨t', ht', wt'⟩ := r5.int T.hi
  obtain ⟨u, hu, wu⟩ := r6.int T.hi
  obtain ⟨n, hn, wn⟩ := r7.int T.hi
  match cs, hl with
  | [c0, c1, c2, c3, c4, c5, c6, c7, c8, c9, c10, c11], _ =>
    simp [msgCells] at hk hm ha hb hg ht' hu hn
    obtain ⟨rfl, rfl, rfl, rfl, rfl⟩ := hm
    subst hk ha hb hg ht' hu hn
    exact ⟨⟨k, m, a, b, ga, gn, gc, t', u, n⟩, rfl, ⟨wk, wm⟩, ⟨wt', wu⟩, wn, wa, wb⟩

theorem open_msg {P : Program} {w : World} {r : Reach} {base : Nat} {t tl ti ts : TypeId} {v : Value} {H : Type} {enc : TypeId × Value → H} {sp : Nat → Bool} {d : DataW H} {ps : List MemPlace} {f0 f1 f2 f3 f4 : Field}
    (hv : Value.okWide P w r base t v) (h : DataW.Trod enc P w 0 sp true t v d ps) (hw : ∀ n ∈ d.weights P t, n ≤ reachBytes) (T : MsgTypes P t tl ti ts f0 f1 f2 f3 f4) : ∃ m, v = msgVal m ∧ msgOk m := by
  obtain ⟨cs, rfl, _⟩ := okWide_struct T.ht hv
  obtain ⟨x, hx, ox⟩ := (reads_of_trod h hw).msg T
  refine ⟨x, ?_, ox⟩
  have : cs = (msgCells x).toArray := by
    have h2 : (Value.agg cs).cells = cs := rfl
    rw [h2] at hx
    rw [← hx]
  rw [this]; rfl
theorem open_cmd {P : Program} {w : World} {r : Reach} {base : Nat} {t tm tk tl ti ts : TypeId} {v : Value} {H : Type} {enc : TypeId × Value → H} {sp : Nat → Bool} {d : DataW H} {ps : List MemPlace} {f0 f1 f2 f3 f4 f5 f6 f7 g0 g1 g2 g3 g4 : Field}
    (hv : Value.okWide P w r base t v) (h : DataW.Trod enc P w 0 sp true t v d ps) (hw : ∀ n ∈ d.weights P t, n ≤ reachBytes) (C : CmdTypes P t tm tk tl ti f0 f1 f2 f3 f4 f5 f6 f7) (T : MsgTypes P tm tl ti ts g0 g1 g2 g3 g4) : ∃ c, v = cmdVal c ∧ cmdOk c := by
  obtain ⟨cs, rfl, _⟩ := okWide_struct C.ht hv
  obtain ⟨x, hx, ox⟩ := (reads_of_trod h hw).cmd C T
  refine ⟨x, ?_, ox⟩
  have : cs = (cmdCells x).toArray := by
    have h2 : (Value.agg cs).cells = cs := rfl
    rw [h2] at hx
    rw [← hx]
  rw [this]; rfl
theorem open_cmds {P : Program} {w : World} {r : Reach} {base : Nat} {t tc tm tk tl ti ts : TypeId} {v : Value} {H : Type} {enc : TypeId × Value → H} {sp : Nat → Bool} {d : DataW H} {ps : List MemPlace} {f0 f1 f2 f3 f4 f5 f6 f7 g0 g1 g2 g3 g4 : Field}
    (hv : Value.okWide P w r base t v) (h : DataW.Trod enc P w 0 sp true t v d ps) (hw : ∀ n ∈ d.weights P t, n ≤ reachBytes) (hs : P.underlying t = some (.slice tc)) (C : CmdTypes P tc tm tk tl ti f0 f1 f2 f3 f4 f5 f6 f7) (T : MsgTypes P tm tl ti ts g0 g1 g2 g3 g4) : ∃ l, SliceR w v 12 cmdCells l ∧ ∀ c ∈ l, cmdOk c := by
  obtain ⟨a, n, c, rfl⟩ := okWide_slice hs hv
  obtain ⟨v', l, h1, h2, _, h3⟩ := (reads_of_trod h hw).list 12 cmdCells cmdOk hs C.hc (by omega) (fun ds hd => hd.cmd C T)
  have h4 : (Value.slice a n c).cells.toList = [Value.slice a n c] := rfl
  rw [h4] at h1
  simp at h1
  exact ⟨l, h1 ▸ h2, h3⟩
theorem cells_msg : Try.prog.cellsOf 45 = 5 := by kernel_rfl
theorem cells_cmd : Try.prog.cellsOf 47 = 12 := by kernel_rfl
theorem cells_u8 : Try.prog.cellsOf 5 = 1 := by kernel_rfl
end Go.Proofs.Ytblgmjbajnkcdab
/-
  Plain: what a call on one topic leaves as it is. No program in sight.
-/
namespace Go.Proofs.Ytblgmjbajnkcdab
open Go.RowKit

theorem ask_eq {s u : Str} (hs : mayS s) (hu : mayS u) (n : Int) : askS u n = askS s n := by rw [askS, askS, if_pos hs, if_pos hu]
theorem getD_mem_top {s : Str} {i : Nat} (h : i < s.tops.length) : s.tops.getD i default ∈ s.tops := by
  rw [getD_lt h]; exact List.getElem_mem _
theorem may_set {s : Str} {i : Nat} {t : Top} (hm : mayS s) (ht : t.may) (hn : (s.tops.getD i default).next ≤ t.next) : mayS ⟨s.tops.set i t, s.coms⟩ := by
  obtain ⟨⟨h1, h2⟩, h3, h4⟩ := hm
  refine ⟨⟨by simpa using h1, fun x hx => ?_⟩, h3, fun j hj k hk => ?_⟩
  · rcases List.mem_or_eq_of_mem_set hx with h | rfl
    · exact h2 x h
    · exact ht
  · have h5 := h4 j hj k hk
    show (s.coms.getD j []).getD k 0 ≤ ((s.tops.set i t).getD j default).next
    by_cases hij : i = j
    · subst hij
      rw [getD_set_same (by omega)]
      omega
    · rw [getD_set_other hij]
      exact h5
theorem may_com {s : Str} {i : Nat} {who n : Int} (hm : mayS s) (hi : i < 4) (e0 : 0 ≤ who) (e1 : who < 8) (e2 : 0 ≤ n) (e3 : n ≤ 1073741824) (hn : n ≤ (s.tops.getD i default).next) : mayS ⟨s.tops, setC s.coms (i : Int) who n⟩ := by
  obtain ⟨⟨h1, h2⟩, h3, h4⟩ := hm
  refine ⟨⟨h1, h2⟩, okC_set h3 (by omega) (by omega) e0 e1 e2 e3, fun j hj k hk => ?_⟩
  have h5 := h4 j hj k hk
  have h6 := getC_set h3 (t := (i : Int)) (k := who) (n := n) (t' := (j : Int)) (k' := (k : Int)) (by omega) (by omega) e0 e1 (by omega) (by omega)
  simp only [getC, Int.toNat_natCast] at h6
  show ((setC s.coms (i : Int) who n).getD j []).getD k 0 ≤ (s.tops.getD j default).next
  rw [h6]
  split
  · rename_i hh
    obtain ⟨ha, hb⟩ := hh
    have : j = i := by omega
    subst this
    have hwk : who.toNat = k := by omega
    rw [hwk] at *
    omega
  · exact h5
theorem topN_set_other {s : Str} {t : Top} {i : Nat} {o : Int} {c : List (List Int)} (h0 : 0 ≤ o) (h : o ≠ (i : Int)) : topN ⟨s.tops.set i t, c⟩ o = topN s o := by
  unfold topN
  exact getD_set_other (by omega)
theorem fetchS_eq {s u : Str} (hs : mayS s) (hu : mayS u) {n o : Int} (h : 0 ≤ n → topN u n = topN s n) : fetchS u n o = fetchS s n o := by
  rw [fetchS, fetchS, ask_eq hs hu]
  split
  · rename_i ha
    rw [h (askS_zero.1 ha).2.1]
  · rfl
theorem farS_eq {s u : Str} (hs : mayS s) (hu : mayS u) {n k : Int} (h : u.coms = s.coms) : farS u n k = farS s n k := by
  rw [farS, farS, if_pos hs, if_pos hu, h]
theorem farS_eq' {s u : Str} (hs : mayS s) (hu : mayS u) {n k : Int} (h : 0 ≤ n → n < 4 → 0 ≤ k → getC u.coms n k = getC s.coms n k) : farS u n k = farS s n k := by
  rw [farS, farS, if_pos hs, if_pos hu]
  have e : askC u.coms n k = askC s.coms n k := by unfold askC; rw [hs.2.1, hu.2.1]
  rw [e]
  split
  · rename_i ha
    obtain ⟨_, h0, h1, h2, _⟩ := askC_zero ha
    rw [h h0 h1 h2]
  · rfl

theorem putS_cases {s u : Str} {id topic n e : Int} {k b : ByteArray} (h : putS s id topic k b = (u, n, e)) :
    (u = Str.zero ∧ n = 0 ∧ e ≠ 0) ∨ (e = 0 ∧ (mayS s ∧ 0 ≤ topic ∧ topic < 4) ∧ mayS u ∧ n = (topN s topic).next ∧ ∃ t' : Top, u = ⟨s.tops.set topic.toNat t', s.coms⟩ ∧ t'.next = (topN s topic).next + 1) := by
  rw [putS] at h
  split at h
  · rename_i ha
    obtain ⟨hm, h0, h1⟩ := askS_zero.1 ha
    obtain ⟨t', y, f, hadd⟩ : ∃ t' y f, addP (topN s topic) id k b = (t', y, f) := ⟨_, _, _, rfl⟩
    rw [hadd] at h
    have hc := add_cases hadd
    split at h
    · rename_i hf
      cases h
      right
      rcases hc with ⟨_, _, hc⟩ | ⟨⟨_, hy, hut⟩, ⟨_, hum⟩, _⟩
      · exfalso
        simp only at hf
        omega
      · have hnx : t'.next = (topN s topic).next + 1 := by rw [hut]; rfl
        refine ⟨rfl, ⟨hm, h0, h1⟩, may_set hm hum (by rw [show s.tops.getD topic.toNat default = topN s topic from rfl, hnx]; omega), hy, t', rfl, hnx⟩
    · rename_i hf
      cases h
      exact Or.inl ⟨rfl, rfl, hf⟩
  · rename_i ha
    cases h
    exact Or.inl ⟨rfl, rfl, ha⟩

/-- What a command on a topic leaves. -/
theorem doS_cases {s u : Str} {kind topic who n e : Int} (h : doS s kind topic who n = (u, e)) :
    (u = Str.zero ∧ e ≠ 0) ∨ (e = 0 ∧ (mayS s ∧ 0 ≤ topic ∧ topic < 4) ∧ mayS u ∧ ((kind = 4 ∨ kind = 5 ∨ kind = 6) ∧ ∀ o, 0 ≤ o → (o ≠ topic → topN u o = topN s o) ∧ (topN u o).next = (topN s o).next) ∧
      ∀ t k, 0 ≤ t → t < 4 → 0 ≤ k → (t ≠ topic → getC u.coms t k = getC s.coms t k) ∧ getC s.coms t k ≤ getC u.coms t k) := by
  rw [doS] at h
  split at h
  · rename_i ha
    obtain ⟨hm, h0, h1⟩ := askS_zero.1 ha
    obtain ⟨i, rfl⟩ : ∃ i : Nat, topic = (i : Int) := ⟨topic.toNat, by omega⟩
    have hi : i < 4 := by omega
    have hmt := hm.1.2 _ (topN_mem hm h0 h1)
    have ht4 := hm.1.1
    have turned : ∀ r : Top × Int, (r.1.may ∧ r.1.next = (topN s (i : Int)).next ∨ r.2 ≠ 0) → (kind = 5 ∨ kind = 6) → turnS s (i : Int) r = (u, e) → (u = Str.zero ∧ e ≠ 0) ∨ (e = 0 ∧ (mayS s ∧ 0 ≤ (i : Int) ∧ (i : Int) < 4) ∧ mayS u ∧ ((kind = 4 ∨ kind = 5 ∨ kind = 6) ∧ ∀ o, 0 ≤ o → (o ≠ (i : Int) → topN u o = topN s o) ∧ (topN u o).next = (topN s o).next) ∧
        ∀ t k, 0 ≤ t → t < 4 → 0 ≤ k → (t ≠ (i : Int) → getC u.coms t k = getC s.coms t k) ∧ getC s.coms t k ≤ getC u.coms t k) := by
      intro r hr hk ht
      rw [turnS] at ht
      split at ht
      · rename_i h2
        cases ht
        rw [Int.toNat_natCast]
        rcases hr with ⟨hr1, hr2⟩ | hr
        · right
          refine ⟨rfl, ⟨hm, h0, h1⟩, may_set hm hr1 (by rw [show s.tops.getD i default = topN s (i : Int) from rfl, hr2]; exact Int.le_refl _), ⟨Or.inr hk, fun o ho => ⟨fun hne => topN_set_other ho hne, ?_⟩⟩, fun t k _ _ _ => ⟨fun _ => rfl, Int.le_refl _⟩⟩
          by_cases hoi : o = (i : Int)
          · subst hoi
            rw [show topN ⟨s.tops.set i r.1, s.coms⟩ (i : Int) = r.1 from getD_set_same (by omega), hr2]
          · rw [topN_set_other ho hoi]
        · exact absurd h2 hr
      · rename_i h2
        cases ht
        exact Or.inl ⟨rfl, h2⟩
    split at h
    · rename_i h4
      rw [commitS] at h
      split at h
      · cases h; exact Or.inl ⟨rfl, by decide⟩
      · rename_i hb
        split at h
        · cases h; exact Or.inl ⟨rfl, by decide⟩
        · rename_i hn
          cases h
          right
          refine ⟨rfl, ⟨hm, h0, h1⟩, may_com hm hi (by omega) (by omega) (by omega) (by omega) (by have : (topN s (i : Int)).next = (s.tops.getD i default).next := rfl; omega), ⟨Or.inl h4, fun o _ => ⟨fun _ => rfl, rfl⟩⟩, fun t k ht0 ht4 hk0 => ?_⟩
          have h6 := getC_set hm.2.1 (t := (i : Int)) (k := who) (n := n) (t' := t) (k' := k) h0 h1 (by omega) (by omega) ht0 hk0
          show (t ≠ (i : Int) → getC (setC s.coms (i : Int) who n) t k = getC s.coms t k) ∧ getC s.coms t k ≤ getC (setC s.coms (i : Int) who n) t k
          rw [h6]
          split
          · rename_i hh
            obtain ⟨rfl, rfl⟩ := hh
            exact ⟨fun h => absurd rfl h, by omega⟩
          · exact ⟨fun _ => rfl, Int.le_refl _⟩
    · split at h
      · rename_i h5
        refine turned _ ?_ (Or.inl h5) h
        rcases trim_cases (show trimP (topN s (i : Int)) n = ((trimP (topN s (i : Int)) n).1, (trimP (topN s (i : Int)) n).2) from rfl) with ⟨_, hc⟩ | ⟨⟨_, hu⟩, ⟨_, hum⟩, _⟩
        · right; omega
        · left; exact ⟨hum, by rw [hu]; rfl⟩
      · split at h
        · rename_i h6
          refine turned _ ?_ (Or.inr h6) h
          rcases comp_cases (show compactP (topN s (i : Int)) n = ((compactP (topN s (i : Int)) n).1, (compactP (topN s (i : Int)) n).2) from rfl) with ⟨_, hc⟩ | ⟨⟨_, hu⟩, ⟨_, hum⟩, _⟩
          · right; omega
          · left; exact ⟨hum, by rw [hu]; rfl⟩
        · cases h; exact Or.inl ⟨rfl, by decide⟩
  · rename_i ha
    cases h
    exact Or.inl ⟨rfl, ha⟩
end Go.Proofs.Ytblgmjbajnkcdab
/-
  Plain: which commands are refused. No program in sight.
-/
namespace Go.Proofs.Ytblgmjbajnkcdab
open Go.RowKit

theorem askS_may {s : Str} {n : Int} (hm : mayS s) (h0 : 0 ≤ n) (h1 : n < 4) : askS s n = 0 := askS_zero.2 ⟨hm, h0, h1⟩
theorem topN_may {s : Str} {n : Int} (hm : mayS s) (h0 : 0 ≤ n) (h1 : n < 4) : (topN s n).may := hm.1.2 _ (topN_mem hm h0 h1)
def rightD (kind topic who n : Int) : Prop := ((kind = 5 ∨ kind = 6) ∨ (kind = 4 ∧ 0 ≤ who ∧ who < 8)) ∧ (0 ≤ topic ∧ topic < 4) ∧ 0 ≤ n ∧ n ≤ 1073741824
theorem doS_no {s : Str} {kind topic who n : Int} (hm : mayS s) (h : ¬ rightD kind topic who n) : doS s kind topic who n = (Str.zero, 2) := by
  unfold doS
  by_cases ht : 0 ≤ topic ∧ topic < 4
  · have hmt := topN_may hm ht.1 ht.2
    rw [if_pos (askS_may hm ht.1 ht.2)]
    by_cases h4 : kind = 4
    · rw [if_pos h4, commitS, if_pos]
      unfold rightD at h
      omega
    · rw [if_neg h4]
      by_cases hn : n < 0 ∨ 1073741824 < n
      · rw [trimP_arg hmt hn, compactP_arg hmt hn]
        simp [turnS]
      · rw [if_neg (by unfold rightD at h; omega), if_neg (by unfold rightD at h; omega)]
  · have e : askS s topic = 2 := by rw [askS, if_pos hm, if_neg ht]
    rw [if_neg (by rw [e]; decide), e]
theorem doS_bad {s : Str} {kind topic who n : Int} (hm : ¬ mayS s) : doS s kind topic who n = (Str.zero, 8) := by
  have e : askS s topic = 8 := by rw [askS, if_neg hm]
  rw [doS, if_neg (by rw [e]; decide), e]
instance (kind topic who n : Int) : Decidable (rightD kind topic who n) := by unfold rightD; infer_instance
end Go.Proofs.Ytblgmjbajnkcdab
