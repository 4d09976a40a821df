/-
  slices.Reverse at entries of the call's own. No condition but that the row is the call's own.
-/
import Derived.BigRegion
import Derived.Deep.LoopGhost
import Derived.Laws.OwnMore
import Derived.Test.YtolgkadoplalnaaOwn
namespace Go.Proofs.Ytolgkadoplalnaa
open Go.RowKit

theorem flat_set (l : List Ent) (i : Nat) (x : Ent) (hi : i < l.length) :
    ((((l.flatMap entCells).set (i * 4) (.int .i64 x.off)).set (i * 4 + 1) (.int .i64 x.id)).set (i * 4 + 2) (.string x.key)).set (i * 4 + 3) (.string x.body) = (l.set i x).flatMap entCells := by
  induction l generalizing i with
  | nil => simp at hi
  | cons y l ih =>
    cases i with
    | zero => simp [entCells]
    | succ i =>
      have := ih i (by simpa using hi)
      simp only [List.flatMap_cons, List.set_cons_succ, ← this]
      have e : ∀ (m : Nat) (v : Value) (r : List Value), (entCells y ++ r).set (4 + m) v = entCells y ++ r.set m v := fun m v r => by
        rw [List.set_append_right (h := by simp [entCells])]
        simp [entCells]
      have a0 : (i + 1) * 4 = 4 + i * 4 := by omega
      rw [a0, e, Nat.add_assoc, e, Nat.add_assoc, e, Nat.add_assoc, e]

/-- Block g alone may be another. -/
def Only (g : Nat) (w w' : World) : Prop := w'.heap.size = w.heap.size ∧ (∀ b, b ≠ g → w'.heap[b]? = w.heap[b]?) ∧ ∀ B, B ≤ g → B ≤ w.heap.size → Below B w w'
theorem Only.refl (g : Nat) (w : World) : Only g w w := ⟨rfl, fun _ _ => rfl, fun _ _ _ => Below.refl _ _⟩
theorem Only.drew {g : Nat} {w w' : World} (h : Only g w w') : Only g w w'.drew := ⟨h.1, h.2.1, fun B h1 h2 => (h.2.2 B h1 h2).drew⟩
theorem Only.set_ {g : Nat} {w w' : World} (h : Only g w w') (o : Nat) (u : Value) : Only g w (w'.setCell ⟨g, o, none⟩ u) :=
  ⟨by simpa using h.1, fun b hb => (Below.heap_setCell w' ⟨g, o, none⟩ u b hb).trans (h.2.1 b hb), fun B h1 h2 => Below.setCell (p := ⟨g, o, none⟩) (h.2.2 B h1 h2) h1 u⟩

/-- Entry x at place i of an own row. -/
def put4 (W : World) (g i : Nat) (x : Ent) : World := (((W.setCell ⟨g, i * 4, none⟩ (.int .i64 x.off)).setCell ⟨g, i * 4 + 1, none⟩ (.int .i64 x.id)).setCell ⟨g, i * 4 + 2, none⟩ (.string x.key)).setCell ⟨g, i * 4 + 3, none⟩ (.string x.body)
theorem own_put4 {W : World} {B g n cap i : Nat} {l : List Ent} (hn : n = l.length) (h : OwnE W B (.slice (some ⟨g, 0, none⟩) n cap) l) (hi : i < n) (x : Ent) :
    OwnE (put4 W g i x) B (.slice (some ⟨g, 0, none⟩) n cap) (l.set i x) := by
  subst hn
  have h1 := (h.stored (i * 4) (.int .i64 x.off)).1
  have h2 := (h1.stored (i * 4 + 1) (.int .i64 x.id)).1
  have h3 := (h2.stored (i * 4 + 2) (.string x.key)).1
  have h4 := (h3.stored (i * 4 + 3) (.string x.body)).1
  rw [flat_set l i x hi] at h4
  unfold OwnE
  rw [List.length_set]
  exact h4
theorem only_put4 {w W : World} {g : Nat} (h : Only g w W) (i : Nat) (x : Ent) : Only g w (put4 W g i x) := (((h.set_ _ _).set_ _ _).set_ _ _).set_ _ _

def swapE (l : List Ent) (i j : Nat) : List Ent := (l.set i (l.getD j default)).set j (l.getD i default)
/-- Behind i rounds. -/
def RevI (l : List Ent) (i : Nat) (c : List Ent) : Prop := c.length = l.length ∧ ∀ k, k < l.length → c.getD k default = if k < i ∨ l.length - 1 - i < k then l.getD (l.length - 1 - k) default else l.getD k default
theorem revI_zero (l : List Ent) : RevI l 0 l := ⟨rfl, fun k hk => by rw [if_neg (by omega)]⟩
theorem revI_succ {l c : List Ent} {i j : Nat} (h : RevI l i c) (hij : i + j + 1 = l.length) (hlt : i < j) : RevI l (i + 1) (swapE c i j) := by
  obtain ⟨h1, h2⟩ := h
  refine ⟨by simp [swapE, h1], fun k hk => ?_⟩
  have e : (swapE c i j).getD k default = if k = j then c.getD i default else if k = i then c.getD j default else c.getD k default := by
    unfold swapE
    simp only [List.getD_eq_getElem?_getD, List.getElem?_set, List.length_set]
    by_cases hj : j = k
    · subst hj
      rw [if_pos rfl, if_pos (by omega), if_pos rfl]
      rfl
    · rw [if_neg hj, if_neg (fun (e : k = j) => hj e.symm)]
      by_cases hi : i = k
      · subst hi
        rw [if_pos rfl, if_pos (by omega), if_pos rfl]
        rfl
      · rw [if_neg hi, if_neg (fun (e : k = i) => hi e.symm)]
  rw [e]
  by_cases hj : k = j
  · subst hj
    rw [if_pos rfl, h2 i (by omega), if_neg (by omega), if_pos (by omega)]
    congr 1; omega
  · rw [if_neg hj]
    by_cases hi : k = i
    · subst hi
      rw [if_pos rfl, h2 j (by omega), if_neg (by omega), if_pos (by omega)]
      congr 1; omega
    · rw [if_neg hi, h2 k hk]
      by_cases c1 : k < i ∨ l.length - 1 - i < k
      · rw [if_pos c1, if_pos (by omega)]
      · rw [if_neg c1, if_neg (by omega)]
theorem revI_done {l c : List Ent} {i : Nat} (h : RevI l i c) (hi : l.length ≤ 2 * i + 1) : c = l.reverse := by
  obtain ⟨h1, h2⟩ := h
  apply List.ext_getElem (by simp [h1])
  intro k k1 k2
  have hk : k < l.length := by omega
  have h := h2 k hk
  have hk' : l.length - 1 - k < l.length := by omega
  rw [List.getElem_reverse]
  by_cases c1 : k < i ∨ l.length - 1 - i < k
  · rw [if_pos c1] at h
    simpa [List.getD_eq_getElem?_getD, k1, hk'] using h
  · rw [if_neg c1] at h
    have e : l.length - 1 - k = k := by omega
    simp only [e]
    simpa [List.getD_eq_getElem?_getD, k1, hk] using h

/-- The cells of place k. -/
theorem own_at {W : World} {B g n cap k : Nat} {l : List Ent} (hn : n = l.length) (h : OwnE W B (.slice (some ⟨g, 0, none⟩) n cap) l) (hk : k < n) :
    (W.cell? ⟨g, k * 4, none⟩ = some (.int .i64 (l.getD k default).off) ∧ W.cell? ⟨g, k * 4 + 1, none⟩ = some (.int .i64 (l.getD k default).id)) ∧ W.cell? ⟨g, k * 4 + 2, none⟩ = some (.string (l.getD k default).key) ∧ W.cell? ⟨g, k * 4 + 3, none⟩ = some (.string (l.getD k default).body) := by
  obtain ⟨b, off, ha, he⟩ := h.reads.ents.2.2 (by omega)
  cases ha
  obtain ⟨⟨⟨e0, e1⟩, e2⟩, e3⟩ := he k (by omega)
  simp only [Nat.zero_add] at e0 e1 e2 e3
  exact ⟨⟨e0, e1⟩, e2, e3⟩

theorem own_free {W : World} {B g n cap : Nat} {l : List Ent} (hn : n = l.length) (h : OwnE W B (.slice (some ⟨g, 0, none⟩) n cap) l) (o : Nat) : W.frozen? ⟨g, o, none⟩ = false := by
  subst hn
  exact h.frozenAt o

def RevEnd (B : Nat) (v : Value) (l : List Ent) (w : World) (e : Ending) (w' : World) : Prop := (∃ u, e = .returned u) ∧ OwnE w' B v l.reverse ∧ w'.heap.size = w.heap.size ∧ (∀ b, v.ownBlock ≠ some b → w'.heap[b]? = w.heap[b]?) ∧ (B ≤ w.heap.size → Below B w w')

set_option maxHeartbeats 2000000 in
set_option maxRecDepth 100000 in
theorem rev_any {v : Value} {B : Nat} {l : List Ent} {w : World} (h : OwnE w B v l) (hl : l.length ≤ 1000000) :
    Calls Try.prog 49 #[v] w (RevEnd B v l w) := by
  obtain ⟨hlen, ⟨e, h0⟩ | ⟨g, cap, cur, hv, hB, hh, hle, hmx, hr⟩⟩ := id h
  · subst e
    obtain rfl : l = [] := List.eq_nil_of_length_eq_zero h0
    have HO := Lib.hid h
    clear h hlen
    go_enter Try.func49, Try.ntmps49
    go_wp2_with fail
    go_loopg [2, 3] 0 (fun g i j wr => i = .int .i64 0 ∧ j = .int .i64 (-1) ∧ wr = w)
    case atStart => exact ⟨rfl, rfl, rfl⟩
    case round =>
      obtain ⟨rfl, rfl, rfl⟩ := hrel
      go_wp2_with fail
      refine bodyPost_ret (results_none rfl _ _ _) rfl ⟨⟨_, rfl⟩, HO.out, rfl, fun _ _ => rfl, fun _ => Below.refl _ _⟩
  · subst hv
    obtain ⟨n, hn⟩ : ∃ n, n = l.length := ⟨_, rfl⟩
    rw [← hn] at h hle hl ⊢
    have HO := Lib.hid h
    have HN := Lib.hid hn
    have HB := Lib.hid hB
    have hg : g < w.heap.size := (h.lt g rfl).2
    have hle' : (n : Int) ≤ (cap : Int) := by omega
    have hl' : (n : Int) ≤ 1000000 := by omega
    clear h hlen hn hB hh hr hmx
    go_enter Try.func49, Try.ntmps49
    go_wp2_with fail
    go_loopg [2, 3] n (fun m i j wr => ∃ (k : Nat) (c : List Ent), k ≤ n ∧ m = n - k ∧ i = .int .i64 (k : Int) ∧ j = .int .i64 ((n : Int) - 1 - (k : Int)) ∧ Hid (RevI l k c) ∧ Hid (OwnE wr B (.slice (some ⟨g, 0, none⟩) n cap) c) ∧ Hid (Only g w wr))
    case atStart => exact ⟨0, l, Nat.zero_le _, rfl, rfl, by go_num, revI_zero l, HO.out, Only.refl _ _⟩
    case round =>
      obtain ⟨k, c, hk, rfl, rfl, rfl, hi, ho, hw⟩ := hrel
      by_cases hlt : (k : Int) < (n : Int) - 1 - (k : Int)
      · have hk0 : (0 : Int) ≤ (k : Int) := by omega
        have hk1 : (k : Int) < (n : Int) := by omega
        obtain ⟨j, hj⟩ : ∃ j : Nat, (n : Int) - 1 - (k : Int) = (j : Int) := ⟨(n - 1 - k), by omega⟩
        rw [hj] at hlt ⊢
        have hj0 : (0 : Int) ≤ (j : Int) := by omega
        have hj1 : (j : Int) < (n : Int) := by omega
        have hcl : n = c.length := by have := hi.out.1; have := HN.out; omega
        obtain ⟨x, hx⟩ : ∃ x, x = c.getD k default := ⟨_, rfl⟩
        obtain ⟨y, hy⟩ : ∃ y, y = c.getD j default := ⟨_, rfl⟩
        have cc := own_at hcl ho.out (k := k) (by omega)
        have dd := own_at hcl ho.out (k := j) (by omega)
        rw [← hx] at cc
        rw [← hy] at dd
        obtain ⟨⟨c0, c1⟩, c2, c3⟩ := cc
        obtain ⟨⟨d0, d1⟩, d2, d3⟩ := dd
        have cz := own_free hcl ho.out
        have HX := Lib.hid hx
        have HY := Lib.hid hy
        have HCL := Lib.hid hcl
        have HJ := Lib.hid hj
        clear hx hy hcl
        go_wp2_with fail
        go_region
        go_wp2_with fail
        go_roundg (n - (k + 1))
        case measure => omega
        case rel =>
          refine ⟨k + 1, swapE c k j, by omega, rfl, by go_num, ?_, ?_, ?_, ?_⟩
          · have := HJ.out
            go_num
          · exact revI_succ hi.out (by have := HJ.out; have := HN.out; omega) (by omega)
          · have e : swapE c k j = (c.set k y).set j x := by rw [swapE, ← HX.out, ← HY.out]
            rw [e]
            show OwnE (put4 (put4 wr g k y) g j x).drew B _ _
            exact own_drew (own_put4 (by rw [List.length_set]; exact HCL.out) (own_put4 HCL.out ho.out (i := k) (by omega) y) (i := j) (by omega) x)
          · show Only g w (put4 (put4 wr g k y) g j x).drew
            exact (only_put4 (only_put4 hw.out k y) j x).drew
      · have hge : (n : Int) - 1 - (k : Int) ≤ (k : Int) := by omega
        go_wp2_with fail
        have hc : c = l.reverse := revI_done hi.out (by have := HN.out; omega)
        rw [hc] at ho
        refine bodyPost_ret (results_none rfl _ _ _) rfl ⟨⟨_, rfl⟩, ho.out, hw.out.1, fun b hb => hw.out.2.1 b (fun e => hb (by rw [e]; rfl)), fun h => hw.out.2.2 B HB.out h⟩
end Go.Proofs.Ytolgkadoplalnaa
