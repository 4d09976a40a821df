/-
  Models that a call made, their contents left open: what may be written over. No program in sight but its types.
-/
import Derived.Test.YtblgmjbajnkcdabStrSh
import Derived.Test.YtblgmjbajnkcdabMdlSet
namespace Go.Proofs.Ytblgmjbajnkcdab
open Go.RowKit Go.Deep

/-- Own plain topics: us: the slices that lie among them. -/
def ShP (w : World) (B : Nat) (v : Value) (us : List Value) : Prop := ∃ xs, w.ownsRow B 84 3 v us.length xs ∧ (∀ i, i < us.length → xs[i * 3]? = us[i]?) ∧ ∀ u ∈ us, ∃ m, RowX w B 29 4 m u
/-- A model of the call's own, in the band of blocks from B to T. -/
def ShM (w : World) (B T : Nat) (v : Value) : Prop := ∃ ta tc us rs, v = .agg #[ta, tc] ∧ (ShP w B ta us ∧ LtT T ta us) ∧ ShC w B tc rs ∧ LtT T tc rs

theorem ShP.band {w w' : World} {B T : Nat} {v : Value} {us : List Value} (h : ShP w B v us) (hl : LtT T v us) (hb : ∀ K, B ≤ K → K < T → w'.heap[K]? = w.heap[K]?) : ShP w' B v us := by
  obtain ⟨xs, h1, h2, h3⟩ := h
  exact ⟨xs, ownsRow_band h1 hl.1 hb, h2, fun u hu => by obtain ⟨m, hm⟩ := h3 u hu; exact ⟨m, hm.band (hl.2 u hu) hb⟩⟩
theorem ShM.band {w w' : World} {B T : Nat} {v : Value} (h : ShM w B T v) (hb : ∀ K, B ≤ K → K < T → w'.heap[K]? = w.heap[K]?) : ShM w' B T v := by
  obtain ⟨ta, tc, us, rs, hv, ⟨h1, h2⟩, h3, h4⟩ := h
  exact ⟨ta, tc, us, rs, hv, ⟨h1.band h2 hb, h2⟩, h3.band h4 hb, h4⟩
theorem ShM.step {w w' : World} {B T : Nat} {v : Value} (h : ShM w B T v) (hT : T ≤ w.heap.size) (hb : Below w.heap.size w w') : ShM w' B T v :=
  h.band (fun K _ hK => hb.block K (by omega))
theorem flatp_cell {pl : List (Value × Pl)} {i : Nat} (hi : i < pl.length) : (pl.flatMap plCells)[i * 3]? = some pl[i].1 := by
  have := flat_get (k := 3) plCells_len pl i hi 0 (by omega)
  rw [Nat.add_zero] at this
  rw [this]
  rfl
theorem OwnN.sh {w : World} {B : Nat} {v : Value} {s : Mdl} (h : OwnN w B v s) : ShM w B w.heap.size v := by
  obtain ⟨ta, tc, rfl, ⟨pl, hpl, hrow, hent⟩, us, k1, k2, k3, _⟩ := h
  have hlen : pl.length = s.tops.length := by rw [← hpl, List.length_map]
  have hus : ∀ u ∈ us, ∃ m, RowX w B 3 1 m u := fun u hu => by
    obtain ⟨i, hi, rfl⟩ := List.getElem_of_mem hu
    have := k3 i (by omega)
    rw [show us.getD i .nilIface = us[i] by simp [List.getD, hi]] at this
    exact ⟨_, _, this⟩
  have bl : ∀ {e : TypeId} {s n : Nat} {u : Value}, RowX w B e s n u → ∀ g, u.ownBlock = some g → g < w.heap.size := fun hx g hg => (hx.choose_spec.lt g hg).2
  refine ⟨ta, tc, pl.map (·.1), us, rfl, ⟨⟨pl.flatMap plCells, by rw [List.length_map, hlen]; exact hrow, fun i hi => ?_, fun u hu => ?_⟩, ⟨bl ⟨_, hrow⟩, fun u hu => ?_⟩⟩, ⟨k1, hus⟩, ⟨bl ⟨_, k1⟩, fun u hu => ?_⟩⟩
  · rw [List.length_map] at hi
    rw [flatp_cell hi]
    simp [hi]
  · obtain ⟨p, hp, rfl⟩ := List.mem_map.1 hu
    exact ⟨_, _, hent p hp⟩
  · obtain ⟨p, hp, rfl⟩ := List.mem_map.1 hu
    exact bl ⟨_, hent p hp⟩
  · obtain ⟨m, hm⟩ := hus u hu
    exact bl hm

/-- A slice among the plain topics, as the walk meets it: its cell, its shape, its own cells. -/
theorem ShP.at_ {w : World} {B n cap i : Nat} {a : Option Addr} {us : List Value} (h : ShP w B (.slice a n cap) us) (hi : i < us.length) :
    ∃ g ua m uc, a = some ⟨g, 0, none⟩ ∧ w.cell? ⟨g, i * 3, none⟩ = some (.slice ua m uc) ∧ us.getD i .nilIface = .slice ua m uc ∧ (m ≤ uc ∧ uc ≤ maxLen) ∧
      ∀ k, k < m → ∃ gu, ua = some ⟨gu, 0, none⟩ ∧ ((∃ y, w.cell? ⟨gu, k * 4 + 3, none⟩ = some y) ∧ w.frozen? ⟨gu, k * 4 + 3, none⟩ = false ∧ B ≤ gu) ∧ (∀ x, ShP (w.setCell ⟨gu, k * 4 + 3, none⟩ x) B (.slice a n cap) us) ∧
        ∀ (x : Value) {b2 : Nat} {v2 : Value} {rs : List Value}, ShC w b2 v2 rs → ShC (w.setCell ⟨gu, k * 4 + 3, none⟩ x) b2 v2 rs := by
  obtain ⟨xs, h1, h2, h3⟩ := h
  obtain ⟨g, ha⟩ : ∃ g, a = some ⟨g, 0, none⟩ := by
    rcases h1.2 with ⟨h0, h9⟩ | ⟨g, cp, cur, hv, _⟩
    · omega
    · cases hv; exact ⟨g, rfl⟩
  subst ha
  have hu : us.getD i .nilIface = us[i] := by simp [List.getD, hi]
  obtain ⟨m, hm⟩ := h3 us[i] (List.getElem_mem hi)
  obtain ⟨ua, uc, hus, hb, hg⟩ := hm.shape
  have hn : n = us.length := by
    rcases h1.2 with ⟨h0, _⟩ | ⟨_, _, _, h0, _⟩
    · cases h0
    · cases h0; rfl
  subst hn
  have hc := h1.cellAt (i * 3) (show i * 3 < us.length * 3 by omega)
  rw [h2 i hi, List.getElem?_eq_getElem hi, hus] at hc
  refine ⟨g, ua, m, uc, rfl, hc, by rw [hu, hus], hb, fun k hk => ?_⟩
  obtain ⟨gu, hgu⟩ := hg (by omega)
  subst hgu
  rw [hus] at hm
  have hat := hm.at_ (o := k * 4 + 3) (by omega)
  refine ⟨gu, rfl, hat, fun x => ⟨xs, ownsRow_setCell_other h1 ?_ x, h2, fun u hu => ?_⟩, fun x b2 v2 rs hrs => ⟨ownsRow_setCell_other hrs.1 ?_ x, fun u hu => ?_⟩⟩
  · rcases rows_apart hm.choose_spec h1 (by decide) with h0 | h0
    · simp [Value.ownBlock] at h0
    · simpa [Value.ownBlock] using fun e => h0 (by simp [Value.ownBlock, e])
  · obtain ⟨m', hm'⟩ := h3 u hu
    exact ⟨m', hm'.set_⟩
  · exact rows_ne hrs.1 hm.choose_spec (by decide) rfl
  · obtain ⟨m', hm'⟩ := hrs.2 u hu
    exact ⟨m', hm'.set_⟩
end Go.Proofs.Ytblgmjbajnkcdab
