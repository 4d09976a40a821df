/-
  How models read: from the form's reading to lists. No program in sight but its types.
-/
import Derived.Test.YtblgmjbajnkcdabMdlP
import Derived.Test.YtblgmjbajnkcdabBunS
namespace Go.Proofs.Ytblgmjbajnkcdab
open Go.RowKit Go.Deep Go.WideShapes Go.ChangeShapes

def plCells (p : Value × Pl) : List Value := [p.1, .int .i64 p.2.base, .int .i64 p.2.mark]
theorem plCells_len (p : Value × Pl) : (plCells p).length = 3 := rfl
/-- The slice value u reads as all of p's entries. -/
def AllR (w : World) (u : Value) (p : Pl) : Prop := ∃ a cap, u = .slice a p.all.length cap ∧ SliceR w u 4 entCells p.all
def PlsR (w : World) (v : Value) (l : List Pl) : Prop := ∃ pl : List (Value × Pl), pl.map (·.2) = l ∧ SliceR w v 3 plCells pl ∧ ∀ p ∈ pl, AllR w p.1 p.2
def MdlR (w : World) (v : Value) (m : Mdl) : Prop := ∃ ta tc, v = .agg #[ta, tc] ∧ PlsR w ta m.tops ∧ RowsR w tc m.coms
def PlR (w : World) (v : Value) (p : Pl) : Prop := ∃ a cap, v = .agg #[.slice a p.all.length cap, .int .i64 p.base, .int .i64 p.mark] ∧ SliceR w (.slice a p.all.length cap) 4 entCells p.all

theorem AllR.below {w w' : World} {u : Value} {p : Pl} (h : AllR w u p) (hb : Below w.heap.size w w') : AllR w' u p := by
  obtain ⟨a, cap, h1, h2⟩ := h
  exact ⟨a, cap, h1, h2.below entCells_len hb⟩
theorem PlR.below {w w' : World} {u : Value} {p : Pl} (h : PlR w u p) (hb : Below w.heap.size w w') : PlR w' u p := by
  obtain ⟨a, cap, h1, h2⟩ := h
  exact ⟨a, cap, h1, h2.below entCells_len hb⟩
theorem PlsR.below {w w' : World} {v : Value} {l : List Pl} (h : PlsR w v l) (hb : Below w.heap.size w w') : PlsR w' v l := by
  obtain ⟨pl, h1, h2, h3⟩ := h
  exact ⟨pl, h1, h2.below plCells_len hb, fun p hp => (h3 p hp).below hb⟩
theorem MdlR.below {w w' : World} {v : Value} {m : Mdl} (h : MdlR w v m) (hb : Below w.heap.size w w') : MdlR w' v m := by
  obtain ⟨ta, tc, h1, h2, h3⟩ := h
  exact ⟨ta, tc, h1, h2.below hb, h3.below hb⟩
theorem mdlR_step {w w1 w2 : World} {v : Value} {m : Mdl} (h : MdlR w v m) (hu : Below w.heap.size w w1) (hb : Below w1.heap.size w1 w2) : Hid (MdlR w2 v m) := Lib.hid ((h.below hu).below hb)
theorem plR_of {w : World} {u : Value} {p : Pl} (h : AllR w u p) : PlR w (.agg #[u, .int .i64 p.base, .int .i64 p.mark]) p := by
  obtain ⟨a, cap, rfl, h2⟩ := h
  exact ⟨a, cap, rfl, h2⟩

/-- A plain topic among plain topics, as the walk spells it. -/
def PlAt (w : World) (b o : Nat) (p : Pl) : Prop := ∃ ea ecap, ((w.cell? ⟨b, o, none⟩ = some (.slice ea p.all.length ecap) ∧ w.cell? ⟨b, o + 1, none⟩ = some (.int .i64 p.base)) ∧ w.cell? ⟨b, o + 2, none⟩ = some (.int .i64 p.mark)) ∧ PlR w (.agg #[.slice ea p.all.length ecap, .int .i64 p.base, .int .i64 p.mark]) p
theorem PlsR.shape {w : World} {v : Value} {l : List Pl} (h : PlsR w v l) : ∃ a cap, v = .slice a l.length cap ∧ l.length ≤ cap ∧ cap ≤ maxLen ∧ (a = none → cap = 0) ∧
    (0 < l.length → ∃ b off, a = some ⟨b, off, none⟩ ∧ ∀ i, i < l.length → PlAt w b (off + i * 3) (l.getD i default)) := by
  obtain ⟨pl, rfl, ⟨a, cap, h1, h2, h3, h4, h5⟩, h6⟩ := h
  refine ⟨a, cap, by rw [List.length_map]; exact h1, by rw [List.length_map]; exact h2, h3, h4, fun hp => ?_⟩
  rw [List.length_map] at hp
  obtain ⟨b, off, ha, hd⟩ := h5 hp
  refine ⟨b, off, ha, fun i hi => ?_⟩
  rw [List.length_map] at hi
  have e : (pl.map (·.2)).getD i default = pl[i].2 := by simp [List.getD, hi]
  rw [e]
  obtain ⟨ea, ecap, hu, hs⟩ := id (h6 _ (List.getElem_mem hi))
  have hT := plR_of (h6 _ (List.getElem_mem hi))
  rw [hu] at hT
  have h0 := hd i hi 0 (by omega)
  refine ⟨ea, ecap, ⟨⟨?_, by simpa [plCells, Nat.add_assoc] using hd i hi 1 (by omega)⟩, by simpa [plCells, Nat.add_assoc] using hd i hi 2 (by omega)⟩, hT⟩
  rw [Nat.add_zero] at h0
  rw [h0]
  simp [plCells, hu]
theorem MdlR.shape {w : World} {v : Value} {m : Mdl} (h : MdlR w v m) : ∃ a cap b n c, v = .agg #[.slice a m.tops.length cap, .slice b n c] ∧ PlsR w (.slice a m.tops.length cap) m.tops ∧ RowsR w (.slice b n c) m.coms := by
  obtain ⟨ta, tc, rfl, h2, h3⟩ := h
  obtain ⟨a, cap, rfl, _⟩ := h2.shape
  obtain ⟨b, n, c, rfl⟩ := h3.shape
  exact ⟨a, cap, b, n, c, rfl, h2, h3⟩
theorem PlAt.keep {w w' : World} {b o : Nat} {p : Pl} (h : PlAt w b o p) (hb : Below w.heap.size w w') : PlAt w' b o p := by
  obtain ⟨ea, ecap, ⟨⟨h0, h1⟩, h2⟩, h4⟩ := h
  exact ⟨ea, ecap, ⟨⟨Go.Proofs.Ytblgmjbajnkcdab.keep hb h0, Go.Proofs.Ytblgmjbajnkcdab.keep hb h1⟩, Go.Proofs.Ytblgmjbajnkcdab.keep hb h2⟩, h4.below hb⟩
theorem MdlR.pl {w : World} {a : Option Addr} {n cap : Nat} {l : List Pl} (h : PlsR w (.slice a n cap) l) {i : Int} (h0 : 0 ≤ i) (h1 : i < (l.length : Int)) :
    (n = l.length ∧ n ≤ cap ∧ cap ≤ maxLen) ∧ ∃ b off, a = some ⟨b, off, none⟩ ∧ PlAt w b (off + i.toNat * 3) (l.getD i.toNat default) := by
  obtain ⟨a', cap', hv, h2, h3, _, hd⟩ := h.shape
  cases hv
  obtain ⟨b, off, rfl, hd2⟩ := hd (by omega)
  exact ⟨⟨rfl, h2, h3⟩, b, off, rfl, hd2 _ (by omega)⟩

/-! From the form's reading -/
def plOk (p : Pl) : Prop := (ok64 p.base ∧ ok64 p.mark) ∧ ∀ x ∈ p.all, entOk x
def plFit (P : Program) (te : TypeId) (p : Pl) : Prop := plOk p ∧ p.all.length * P.bytesOf te ≤ reachBytes
/-- The types that a plain topic needs. -/
structure PlTypes (P : Program) (t e te ti ts : TypeId) (f0 f1 f2 g0 g1 g2 g3 : Field) : Prop where
  ht : P.underlying t = some (.struct #[f0, f1, f2])
  hc : P.cellsOf t = 3
  he : P.underlying e = some (.slice te)
  hce : P.cellsOf e = 1
  hte : P.underlying te = some (.struct #[g0, g1, g2, g3])
  hcte : P.cellsOf te = 4
  hi : P.underlying ti = some (.int .i64)
  hci : P.cellsOf ti = 1
  hs : P.underlying ts = some .string
  hcs : P.cellsOf ts = 1
  e0 : f0.type = e ∧ f0.offset = 0
  e1 : f1.type = ti ∧ f1.offset = 1
  e2 : f2.type = ti ∧ f2.offset = 2
  k0 : g0.type = ti ∧ g0.offset = 0
  k1 : g1.type = ti ∧ g1.offset = 1
  k2 : g2.type = ts ∧ g2.offset = 2
  k3 : g3.type = ts ∧ g3.offset = 3
theorem Reads.pl {P : Program} {w : World} {t e te ti ts : TypeId} {cs : List Value} {f0 f1 f2 g0 g1 g2 g3 : Field} (hr : Reads P w t cs) (T : PlTypes P t e te ti ts f0 f1 f2 g0 g1 g2 g3) :
    ∃ p : Value × Pl, cs = plCells p ∧ AllR w p.1 p.2 ∧ plFit P te p.2 := by
  obtain ⟨hl, hf⟩ := hr.struct T.ht
  rw [T.hc] at hl
  have r0 := hf 0 f0 rfl
  have r1 := hf 1 f1 rfl
  have r2 := hf 2 f2 rfl
  rw [T.e0.1, T.e0.2, T.hce] at r0
  rw [T.e1.1, T.e1.2, T.hci] at r1
  rw [T.e2.1, T.e2.2, T.hci] at r2
  obtain ⟨u, l, hu, hs, hsz, hok⟩ := r0.list 4 entCells entOk T.he T.hcte (by omega) (fun ds hd => hd.ent T.hte T.hcte T.hi T.hci T.hs T.hcs T.k0 T.k1 T.k2 T.k3)
  obtain ⟨b, hb, wb⟩ := r1.int T.hi
  obtain ⟨c, hc', wc⟩ := r2.int T.hi
  have hs' := hs
  obtain ⟨ad, cap, hua, _⟩ := hs'
  subst hua
  match cs, hl with
  | [c0, c1, c2], _ =>
    simp at hb hc' hu
    subst hb hc' hu
    exact ⟨(_, ⟨l, b, c⟩), rfl, ⟨ad, cap, rfl, hs⟩, ⟨⟨wb, wc⟩, hok⟩, hsz⟩
/-- What is known of a model that comes in. -/
def mdlFit (P : Program) (tt te tr ti : TypeId) (m : Mdl) : Prop :=
  ((∀ p ∈ m.tops, plFit P te p) ∧ m.tops.length * P.bytesOf tt ≤ reachBytes) ∧ (m.coms.length * P.bytesOf tr ≤ reachBytes ∧ ∀ r ∈ m.coms, r.length * P.bytesOf ti ≤ reachBytes ∧ ∀ x ∈ r, ok64 x)
theorem Reads.pls {P : Program} {w : World} {tl t e te ti ts : TypeId} {cs : List Value} {f0 f1 f2 g0 g1 g2 g3 : Field} (h : Reads P w tl cs) (hl : P.underlying tl = some (.slice t)) (T : PlTypes P t e te ti ts f0 f1 f2 g0 g1 g2 g3) :
    ∃ v l, cs = [v] ∧ PlsR w v l ∧ (∀ p ∈ l, plFit P te p) ∧ l.length * P.bytesOf t ≤ reachBytes := by
  obtain ⟨v, pl, h1, h2, h2w, h3⟩ := h.list (α := Value × Pl) 3 plCells (fun p => AllR w p.1 p.2 ∧ plFit P te p.2) hl T.hc (by omega) (fun ds hd => hd.pl T)
  refine ⟨v, pl.map (·.2), h1, ⟨pl, rfl, h2, fun p hp => (h3 p hp).1⟩, fun x hx => ?_, by simpa using h2w⟩
  obtain ⟨p, hp, rfl⟩ := List.mem_map.1 hx
  exact (h3 p hp).2
theorem open_model {P : Program} {w : World} {r : Reach} {base : Nat} {v : Value} {H : Type} {enc : TypeId × Value → H} {sp : Nat → Bool} {d : DataW H} {ps : List MemPlace} {ts tl tc tr t e te ti tx : TypeId} {q0 q1 f0 f1 f2 g0 g1 g2 g3 : Field}
    (hv : Value.okWide P w r base ts v) (h : DataW.Trod enc P w 0 sp true ts v d ps) (hw : ∀ n ∈ d.weights P ts, n ≤ reachBytes) (S : StrTypes P ts tl t tc tr ti q0 q1) (T : PlTypes P t e te ti tx f0 f1 f2 g0 g1 g2 g3) :
    ∃ m : Mdl, MdlR w v m ∧ mdlFit P t te tr ti m := by
  obtain ⟨cs, rfl, _⟩ := okWide_struct S.ht hv
  have hr := reads_of_trod h hw
  have h2 : (Value.agg cs).cells = cs := rfl
  rw [h2] at hr
  obtain ⟨hl, hf⟩ := hr.struct S.ht
  rw [S.hc] at hl
  have r0 := hf 0 q0 rfl
  have r1 := hf 1 q1 rfl
  rw [S.e0.1, S.e0.2, S.hcl] at r0
  rw [S.e1.1, S.e1.2, S.hcm] at r1
  obtain ⟨ta, l, ha, hta, hta2, hta3⟩ := r0.pls S.hl T
  obtain ⟨tcv, m, hb, htc, htc2, htc3⟩ := r1.rows S.hm S.hr T.hi S.hcr T.hci
  have hcs : cs = #[ta, tcv] := by
    obtain ⟨l'⟩ := cs
    simp only at hl ha hb
    match l', hl with
    | [c0, c1], _ =>
      simp at ha hb
      subst ha hb
      rfl
  rw [hcs]
  exact ⟨⟨l, m⟩, ⟨ta, tcv, rfl, hta, htc⟩, ⟨hta2, hta3⟩, htc2, htc3⟩
end Go.Proofs.Ytblgmjbajnkcdab
