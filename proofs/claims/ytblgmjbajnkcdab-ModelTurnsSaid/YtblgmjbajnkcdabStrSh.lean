/-
  Topics that a call made, their contents left open: what may be written over. No program in sight but its types.
-/
import Derived.Test.YtblgmjbajnkcdabBunS
namespace Go.Proofs.Ytblgmjbajnkcdab
open Go.RowKit Go.Deep

/-- An own row, whatever it holds. -/
def RowX (w : World) (B : Nat) (e : TypeId) (s n : Nat) (v : Value) : Prop := ∃ xs, w.ownsRow B e s v n xs
theorem ownsRow_band {w w' : World} {B T s n : Nat} {e : TypeId} {v : Value} {xs : List Value} (h : w.ownsRow B e s v n xs) (hl : ∀ g, v.ownBlock = some g → g < T) (hb : ∀ K, B ≤ K → K < T → w'.heap[K]? = w.heap[K]?) : w'.ownsRow B e s v n xs := by
  refine ⟨h.1, ?_⟩
  rcases h.2 with h0 | ⟨g, cap, cur, hv, hg, hh, r⟩
  · exact Or.inl h0
  · exact Or.inr ⟨g, cap, cur, hv, hg, by rw [hb g hg (hl g (by rw [hv]; rfl))]; exact hh, r⟩
theorem RowX.band {w w' : World} {B T s n : Nat} {e : TypeId} {v : Value} (h : RowX w B e s n v) (hl : ∀ g, v.ownBlock = some g → g < T) (hb : ∀ K, B ≤ K → K < T → w'.heap[K]? = w.heap[K]?) : RowX w' B e s n v :=
  ⟨_, ownsRow_band h.choose_spec hl hb⟩
theorem RowX.set_ {w : World} {B s n b o : Nat} {e : TypeId} {v u : Value} (h : RowX w B e s n v) : RowX (w.setCell ⟨b, o, none⟩ u) B e s n v := by
  obtain ⟨xs, hx⟩ := h
  by_cases hb : v.ownBlock = some b
  · rcases id hx.2 with ⟨h0, _⟩ | ⟨g, cap, cur, hv, _⟩
    · rw [h0] at hb; simp [Value.ownBlock] at hb
    · subst hv
      have hg : g = b := by simpa [Value.ownBlock] using hb
      subst hg
      exact ⟨_, (hx.stored o u).1⟩
  · exact ⟨xs, ownsRow_setCell_other hx hb u⟩
theorem RowX.shape {w : World} {B s n : Nat} {e : TypeId} {v : Value} (h : RowX w B e s n v) : ∃ a cap, v = .slice a n cap ∧ (n ≤ cap ∧ cap ≤ maxLen) ∧ (0 < n → ∃ g, a = some ⟨g, 0, none⟩) := by
  obtain ⟨xs, hx⟩ := h
  rcases hx.2 with ⟨h0, h1⟩ | ⟨g, cap, cur, hv, hg, hh, h3, h4, _⟩
  · exact ⟨none, 0, by rw [h0, h1], by omega, fun h => by omega⟩
  · exact ⟨_, cap, hv, ⟨h3, h4⟩, fun _ => ⟨g, rfl⟩⟩
theorem RowX.at_ {w : World} {B s n cap o g : Nat} {e : TypeId} (h : RowX w B e s n (.slice (some ⟨g, 0, none⟩) n cap)) (ho : o < n * s) : (∃ y, w.cell? ⟨g, o, none⟩ = some y) ∧ w.frozen? ⟨g, o, none⟩ = false ∧ B ≤ g := by
  obtain ⟨xs, hx⟩ := h
  have hl := hx.1
  refine ⟨⟨xs[o]'(by omega), ?_⟩, hx.frozenAt _, (hx.lt g rfl).1⟩
  rw [hx.cellAt _ (by omega)]
  exact List.getElem?_eq_getElem (by omega)

/-- Own topics, own rows of numbers: us: the slices that lie among them. -/
def ShT (w : World) (B : Nat) (v : Value) (us : List Value) : Prop := ∃ xs, w.ownsRow B 70 4 v us.length xs ∧ (∀ i, i < us.length → xs[i * 4 + 3]? = us[i]?) ∧ ∀ u ∈ us, ∃ m, RowX w B 29 4 m u
def ShC (w : World) (B : Nat) (v : Value) (us : List Value) : Prop := w.ownsRow B 43 1 v us.length us ∧ ∀ u ∈ us, ∃ m, RowX w B 3 1 m u
def LtT (T : Nat) (v : Value) (us : List Value) : Prop := (∀ g, v.ownBlock = some g → g < T) ∧ ∀ u ∈ us, ∀ g, u.ownBlock = some g → g < T
/-- A stream of the call's own, in the band of blocks from B to T. -/
def ShS (w : World) (B T : Nat) (v : Value) : Prop := ∃ ta tc us rs, v = .agg #[ta, tc] ∧ (ShT w B ta us ∧ LtT T ta us) ∧ ShC w B tc rs ∧ LtT T tc rs

theorem ShT.band {w w' : World} {B T : Nat} {v : Value} {us : List Value} (h : ShT w B v us) (hl : LtT T v us) (hb : ∀ K, B ≤ K → K < T → w'.heap[K]? = w.heap[K]?) : ShT w' B v us := by
  obtain ⟨xs, h1, h2, h3⟩ := h
  exact ⟨xs, ownsRow_band h1 hl.1 hb, h2, fun u hu => by obtain ⟨m, hm⟩ := h3 u hu; exact ⟨m, hm.band (hl.2 u hu) hb⟩⟩
theorem ShC.band {w w' : World} {B T : Nat} {v : Value} {us : List Value} (h : ShC w B v us) (hl : LtT T v us) (hb : ∀ K, B ≤ K → K < T → w'.heap[K]? = w.heap[K]?) : ShC w' B v us :=
  ⟨ownsRow_band h.1 hl.1 hb, fun u hu => by obtain ⟨m, hm⟩ := h.2 u hu; exact ⟨m, hm.band (hl.2 u hu) hb⟩⟩
theorem ShS.band {w w' : World} {B T : Nat} {v : Value} (h : ShS w B T v) (hb : ∀ K, B ≤ K → K < T → w'.heap[K]? = w.heap[K]?) : ShS w' B T v := by
  obtain ⟨ta, tc, us, rs, hv, ⟨h1, h2⟩, h3, h4⟩ := h
  exact ⟨ta, tc, us, rs, hv, ⟨h1.band h2 hb, h2⟩, h3.band h4 hb, h4⟩
theorem ShS.step {w w' : World} {B T : Nat} {v : Value} (h : ShS w B T v) (hT : T ≤ w.heap.size) (hb : Below w.heap.size w w') : ShS w' B T v :=
  h.band (fun K _ hK => hb.block K (by omega))
theorem flat_cell {pl : List (Value × Top)} {i : Nat} (hi : i < pl.length) : (pl.flatMap topCells)[i * 4 + 3]? = some pl[i].1 := by
  have := flat_get (k := 4) topCells_len pl i hi 3 (by omega)
  rw [this]
  rfl
theorem OwnS.sh {w : World} {B : Nat} {v : Value} {s : Str} (h : OwnS w B v s) : ShS w B w.heap.size v := by
  obtain ⟨ta, tc, rfl, ⟨pl, hpl, hrow, hent⟩, us, k1, k2, k3, _⟩ := h
  have hlen : pl.length = s.tops.length := by rw [← hpl, List.length_map]
  have hus : ∀ u ∈ us, ∃ m, RowX w B 3 1 m u := fun u hu => by
    obtain ⟨i, hi, rfl⟩ := List.getElem_of_mem hu
    have := k3 i (by omega)
    rw [show us.getD i .nilIface = us[i] by simp [List.getD, hi]] at this
    exact ⟨_, _, this⟩
  have bl : ∀ {e : TypeId} {s n : Nat} {u : Value}, RowX w B e s n u → ∀ g, u.ownBlock = some g → g < w.heap.size := fun hx g hg => (hx.choose_spec.lt g hg).2
  refine ⟨ta, tc, pl.map (·.1), us, rfl, ⟨⟨pl.flatMap topCells, by rw [List.length_map, hlen]; exact hrow, fun i hi => ?_, fun u hu => ?_⟩, ⟨bl ⟨_, hrow⟩, fun u hu => ?_⟩⟩, ⟨k1, hus⟩, ⟨bl ⟨_, k1⟩, fun u hu => ?_⟩⟩
  · rw [List.length_map] at hi
    rw [flat_cell hi]
    simp [hi]
  · obtain ⟨p, hp, rfl⟩ := List.mem_map.1 hu
    exact ⟨_, _, hent p hp⟩
  · obtain ⟨p, hp, rfl⟩ := List.mem_map.1 hu
    exact bl ⟨_, hent p hp⟩
  · obtain ⟨m, hm⟩ := hus u hu
    exact bl hm

/-- A slice among the topics, as the walk meets it: its cell, its shape, its own cells. -/
theorem ShT.at_ {w : World} {B n cap i : Nat} {a : Option Addr} {us : List Value} (h : ShT w B (.slice a n cap) us) (hi : i < us.length) :
    ∃ g ua m uc, a = some ⟨g, 0, none⟩ ∧ w.cell? ⟨g, i * 4 + 3, none⟩ = some (.slice ua m uc) ∧ us.getD i .nilIface = .slice ua m uc ∧ (m ≤ uc ∧ uc ≤ maxLen) ∧
      ∀ k, k < m → ∃ gu, ua = some ⟨gu, 0, none⟩ ∧ ((∃ y, w.cell? ⟨gu, k * 4 + 3, none⟩ = some y) ∧ w.frozen? ⟨gu, k * 4 + 3, none⟩ = false ∧ B ≤ gu) ∧ (∀ x, ShT (w.setCell ⟨gu, k * 4 + 3, none⟩ x) B (.slice a n cap) us) ∧
        ∀ (x : Value) {b2 : Nat} {v2 : Value} {rs : List Value}, ShC w b2 v2 rs → ShC (w.setCell ⟨gu, k * 4 + 3, none⟩ x) b2 v2 rs := by
  obtain ⟨xs, h1, h2, h3⟩ := h
  obtain ⟨g, ha⟩ : ∃ g, a = some ⟨g, 0, none⟩ := by
    rcases h1.2 with ⟨h0, h9⟩ | ⟨g, cp, cur, hv, _⟩
    · omega
    · cases hv; exact ⟨g, rfl⟩
  subst ha
  have hu : us.getD i .nilIface = us[i] := by simp [List.getD, hi]
  obtain ⟨m, hm⟩ := h3 us[i] (List.getElem_mem hi)
  obtain ⟨ua, uc, hus, hb, hg⟩ := hm.shape
  have hn : n = us.length := by
    rcases h1.2 with ⟨h0, _⟩ | ⟨_, _, _, h0, _⟩
    · cases h0
    · cases h0; rfl
  subst hn
  have hc := h1.cellAt (i * 4 + 3) (show i * 4 + 3 < us.length * 4 by omega)
  rw [h2 i hi, List.getElem?_eq_getElem hi, hus] at hc
  refine ⟨g, ua, m, uc, rfl, hc, by rw [hu, hus], hb, fun k hk => ?_⟩
  obtain ⟨gu, hgu⟩ := hg (by omega)
  subst hgu
  rw [hus] at hm
  have hat := hm.at_ (o := k * 4 + 3) (by omega)
  refine ⟨gu, rfl, hat, fun x => ⟨xs, ownsRow_setCell_other h1 ?_ x, h2, fun u hu => ?_⟩, fun x b2 v2 rs hrs => ⟨ownsRow_setCell_other hrs.1 ?_ x, fun u hu => ?_⟩⟩
  · rcases rows_apart hm.choose_spec h1 (by decide) with h0 | h0
    · simp [Value.ownBlock] at h0
    · simpa [Value.ownBlock] using fun e => h0 (by simp [Value.ownBlock, e])
  · obtain ⟨m', hm'⟩ := h3 u hu
    exact ⟨m', hm'.set_⟩
  · exact rows_ne hrs.1 hm.choose_spec (by decide) rfl
  · obtain ⟨m', hm'⟩ := hrs.2 u hu
    exact ⟨m', hm'.set_⟩
theorem ShC.at_ {w : World} {B n cap i : Nat} {a : Option Addr} {us : List Value} (h : ShC w B (.slice a n cap) us) (hi : i < us.length) :
    ∃ g ua m uc, a = some ⟨g, 0, none⟩ ∧ w.cell? ⟨g, i, none⟩ = some (.slice ua m uc) ∧ us.getD i .nilIface = .slice ua m uc ∧ (m ≤ uc ∧ uc ≤ maxLen) ∧
      ∀ k, k < m → ∃ gu, ua = some ⟨gu, 0, none⟩ ∧ ((∃ y, w.cell? ⟨gu, k, none⟩ = some y) ∧ w.frozen? ⟨gu, k, none⟩ = false ∧ B ≤ gu) ∧ ∀ x, ShC (w.setCell ⟨gu, k, none⟩ x) B (.slice a n cap) us := by
  obtain ⟨h1, h3⟩ := h
  obtain ⟨g, ha⟩ : ∃ g, a = some ⟨g, 0, none⟩ := by
    rcases h1.2 with ⟨h0, h9⟩ | ⟨g, cp, cur, hv, _⟩
    · omega
    · cases hv; exact ⟨g, rfl⟩
  subst ha
  have hu : us.getD i .nilIface = us[i] := by simp [List.getD, hi]
  obtain ⟨m, hm⟩ := h3 us[i] (List.getElem_mem hi)
  obtain ⟨ua, uc, hus, hb, hg⟩ := hm.shape
  have hn : n = us.length := by
    rcases h1.2 with ⟨h0, _⟩ | ⟨_, _, _, h0, _⟩
    · cases h0
    · cases h0; rfl
  subst hn
  have hc := h1.cellAt i (show i < us.length * 1 by omega)
  rw [List.getElem?_eq_getElem hi, hus] at hc
  refine ⟨g, ua, m, uc, rfl, hc, by rw [hu, hus], hb, fun k hk => ?_⟩
  obtain ⟨gu, hgu⟩ := hg (by omega)
  subst hgu
  rw [hus] at hm
  have hat := hm.at_ (o := k) (by omega)
  refine ⟨gu, rfl, hat, fun x => ⟨ownsRow_setCell_other h1 ?_ x, fun u hu => ?_⟩⟩
  · exact rows_ne h1 hm.choose_spec (by decide) rfl
  · obtain ⟨m', hm'⟩ := h3 u hu
    exact ⟨m', hm'.set_⟩
end Go.Proofs.Ytblgmjbajnkcdab
