/-
  Texts that belong together; the remark at the head of each says what it proves.
-/
import Derived.RangeFuncNested
import Derived.RangeFuncBound
import Derived.RangeFuncCalls
import Derived.RangeFuncLeaves
import Derived.RangeFuncBox
import Derived.RangeFuncWrites
import Derived.Shelf.Abstract
import Derived.Shelf.RegionOpen
import Derived.WalkKit
import Derived.OwnWalkIn
import Derived.TacticsInMore
import Derived.LoopNIn
import Derived.LoopIn
import Derived.Test.YtblgmjbajnkcdabBunC
import Derived.Test.YtblgmjbajnkcdabBunE
import Derived.BigRegion
import Derived.Deep.LoopGhost
import Derived.Laws.OwnMore
import Derived.Test.YtblgmjbajnkcdabBunD
import Derived.Test.YtblgmjbajnkcdabBunA
import Derived.Test.YtblgmjbajnkcdabBunB
import Derived.Lib.MinMax
import Derived.Outline
set_option maxRecDepth 100000
/-
  slices.Backward at entries: an iterator that hands out a slice's entries from behind. No condition but that the slice reads.
-/
namespace Go.Proofs.Ytblgmjbajnkcdab
open Go.RowKit Go.Shelf

attribute [local go_sem] Oper.semAt_some

/-- What has come when k rounds are over: the last k entries, the last one first, each with its place. -/
def down (l : List Ent) (k : Nat) : List (Int × Ent) := (List.range k).map fun j => (((l.length - 1 - j : Nat) : Int), l.getD (l.length - 1 - j) default)
theorem down_succ (l : List Ent) (k : Nat) : down l (k + 1) = down l k ++ [(((l.length - 1 - k : Nat) : Int), l.getD (l.length - 1 - k) default)] := by simp [down, List.range_succ]
theorem down_length (l : List Ent) (k : Nat) : (down l k).length = k := by simp [down]
abbrev encE (x : Int × Ent) : Array Value := #[.int .i64 x.1, .agg #[.int .i64 x.2.off, .int .i64 x.2.id, .string x.2.key, .string x.2.body]]

/-- What a round must keep: what lies below n₀, and the box of the slice. -/
def BackK (n₀ Bs : Nat) (W W' : World) : Prop := Below n₀ W W' ∧ W'.heap[Bs]? = W.heap[Bs]?
theorem BackK.trans {n₀ Bs : Nat} {X Y Z : World} (h : BackK n₀ Bs X Y) (k : BackK n₀ Bs Y Z) : BackK n₀ Bs X Z := ⟨h.1.trans k.1, k.2.trans h.2⟩
theorem backK_b {n₀ Bs : Nat} {w : World} (hn : n₀ ≤ w.heap.size) (hB : Bs < w.heap.size) (W : World) (l : Nat) (o o' : Obj) (hl : w.heap.size ≤ l) (h : W.heap[l]? = some o) (h1 : o.isCells = false) (h2 : o.isWalk = false) : BackK n₀ Bs W (W.putObj l o') :=
  ⟨belowK_b hn W l o o' hl h h1 h2, (grownBy_putObj' W l o').block Bs (by have := (Array.getElem?_eq_some_iff.1 h).1; omega) (fun e => by cases e; omega)⟩
theorem blk_own {β : Type} {B g : Nat} {t : TypeId} {cs : β → List Value} : OwnFrom B (fun (s : β) W => Blk W g t (cs s)) := fun s W W' row hs hg hr => hs.grown hg (fun e => by
  obtain ⟨_, o, ho, hc⟩ := hr g e
  unfold Blk at hs
  rw [hs] at ho
  cases ho
  cases hc)
theorem blk_row {W W' : World} {g : Nat} {t : TypeId} {cs : List Value} {row : Option Nat} (h : Blk W g t cs) (hg : W.grownBy W' row) (hr : ∀ r, row = some r → ∃ o : Obj, W.heap[r]? = some o ∧ o.isCells = false) : Blk W' g t cs := h.grown hg (fun e => by
  obtain ⟨o, ho, hc⟩ := hr g e
  unfold Blk at h
  rw [h] at ho
  cases ho
  cases hc)

set_option maxRecDepth 100000 in
set_option maxHeartbeats 2000000 in
theorem back1_in (F : Fence) (n : Nat) (h7 : F.fn 112) (hro : F.round = none) (hn : 1 ≤ n) (l Bs n₀ : Nat) (a : Option Addr) (len cap : Nat) (es : List Ent) (hlen : len = es.length) (hle : len ≤ 1000000)
    (J Jx : List (Int × Ent) → World → Prop)
    (hY : ∀ k x W, J (down es k) W → k < len → x = (((es.length - 1 - k : Nat) : Int), es.getD (es.length - 1 - k) default) → YieldAt F (n - 1) Try.prog l (encE x) W fun e W' =>
      (e = .returned (.bool true) ∧ J (down es k ++ [x]) W' ∧ BackK n₀ Bs W W') ∨ (e = .returned (.bool false) ∧ Jx (down es k ++ [x]) W'))
    (W : World) (hBs : W.cell? ⟨Bs, 0, none⟩ = some (.slice a len cap)) (hcap : len ≤ cap) (hd : 0 < len → ∃ b off, a = some ⟨b, off, none⟩ ∧ b < n₀ ∧ EntsAt W b off es) (h0 : J [] W) :
    CallsIn F n Try.prog 112 #[.func (.yield l) #[] #[], .pointer (some ⟨Bs, 0, none⟩)] W fun e W' => (∃ v, e = .returned v) ∧
      ((∃ ys, ys = down es len ∧ J ys W') ∨ (∃ pre, (∃ k, k ≤ len ∧ pre = down es k) ∧ Jx pre W')) := by
  have HD := Lib.hid hd
  have HY := Lib.hid hY
  have HLEN := Lib.hid hlen
  clear hd hY hlen
  have hle' : (len : Int) ≤ 1000000 := by omega
  refine callsIn_of_wp Try.func112 rfl h7 ?_ hro
  simp only [Try.ntmps112, List.size_toArray, List.length_cons, List.length_nil, Nat.reduceAdd, Nat.reduceSub, Array.replicate_succ, Array.replicate_zero, List.push_toArray, List.append_toArray, List.nil_append, List.cons_append]
  gi_wp2
  gi_loopw [3] (fun i wr => ∃ (k r : Nat) (z : Int), r + k = len ∧ i = .int .i64 z ∧ Hid (z = (r : Int) - 1) ∧ Hid (J (down es k) wr) ∧ Hid (BackK n₀ Bs W wr))
    (fun i _ => (intOf i + 1).toNat)
  case atStart => exact ⟨0, len, _, by omega, rfl, rfl, h0, Below.refl _ _, rfl⟩
  case round =>
    obtain ⟨k, r, z, hkr, rfl, hz, hJs, hnx⟩ := hrel
    have hbox := (World.cell?_of_block (a := ⟨Bs, 0, none⟩) hnx.out.2).trans hBs
    cases r with
    | zero =>
      have hz' := hz.out
      have hneg : z < 0 := by omega
      obtain rfl : k = len := by omega
      clear hz'
      gi_wp2
      go_end0
      exact ⟨⟨_, rfl⟩, .inl ⟨_, rfl, hJs.out⟩⟩
    | succ m =>
      have hz' := hz.out
      obtain rfl : z = (m : Int) := by omega
      have m0 : (0 : Int) ≤ (m : Int) := by omega
      have m1 : (m : Int) < (len : Int) := by omega
      obtain ⟨b, off, ha, hb, hcc⟩ := HD.out (by omega)
      subst ha
      have cc := hcc m (by rw [← HLEN.out]; omega)
      have hpl : es.length - 1 - k = m := by have := HLEN.out; omega
      obtain ⟨x, hx⟩ : ∃ x, x = es.getD m default := ⟨_, rfl⟩
      rw [← hx] at cc
      have hsucc : down es (k + 1) = down es k ++ [((m : Int), x)] := by rw [down_succ, hpl, ← hx]
      have HS := Lib.hid hsucc
      have c0 := (hnx.out.1.cell (p := ⟨b, off + m * 4, none⟩) hb).trans cc.1.1.1
      have c1 := (hnx.out.1.cell (p := ⟨b, off + m * 4 + 1, none⟩) hb).trans cc.1.1.2
      have c2 := (hnx.out.1.cell (p := ⟨b, off + m * 4 + 2, none⟩) hb).trans cc.1.2
      have c3 := (hnx.out.1.cell (p := ⟨b, off + m * 4 + 3, none⟩) hb).trans cc.2
      obtain ⟨fn, tmps, assign, body, hy, hR⟩ := HY.out k ((m : Int), x) wr hJs.out (by omega) (by rw [hpl, ← hx])
      simp only [encE] at hy
      have HR := Lib.hid hR
      clear cc hx hsucc hpl hcc hz' hz hR
      gi_wp2
      refine HR.out.mono ?_
      rintro e W3 (⟨rfl, hJ3, hk3⟩ | ⟨rfl, hJx3⟩)
      · gi_wp2
        go_roundw
        case rel => exact ⟨k + 1, m, _, by omega, rfl, rfl, by show J _ _; rw [HS.out]; exact hJ3, hnx.out.trans hk3⟩
        case measure => simp [intOf]
      · gi_wp2
        refine bodyPost_ret (results_none rfl _ _ _) rfl ?_
        exact ⟨⟨_, rfl⟩, .inr ⟨_, ⟨k + 1, by omega, rfl⟩, by rw [HS.out]; exact hJx3⟩⟩

set_option maxHeartbeats 1000000 in
theorem back_any (v : Value) (a : Option Addr) (len cap : Nat) (w : World) (hv : v = .slice a len cap) :
    Calls Try.prog 107 #[v] w fun e w' => e = .returned (.func (.func 112) #[] #[.pointer (some ⟨w.heap.size, 0, none⟩)]) ∧ w' = w.alloc (.cells #[v] 68) := by
  subst hv
  go_enter Try.func107, Try.ntmps107
  go_wp2_with fail
  go_ret
  exact ⟨rfl, rfl⟩

theorem back_stops (F : Fence) (n : Nat) (h7 : F.fn 112) (hro : F.round = none) (hn : 1 ≤ n) (Bs n₀ : Nat) (a : Option Addr) (cap : Nat) (es : List Ent) (hle : es.length ≤ 1000000) (w : World) (hBs : Bs < w.heap.size) (hn₀ : n₀ ≤ w.heap.size)
    (hc : w.cell? ⟨Bs, 0, none⟩ = some (.slice a es.length cap)) (hcap : es.length ≤ cap) (hd : 0 < es.length → ∃ b off, a = some ⟨b, off, none⟩ ∧ b < n₀ ∧ EntsAt w b off es) :
    SeqStopsK F n Try.prog 112 #[.pointer (some ⟨Bs, 0, none⟩)] encE (BackK n₀ Bs) (fun ys => ys = down es es.length) (fun pre => ∃ k, k ≤ es.length ∧ pre = down es k) es.length w := fun l J Jx W hW _ _ hY h0 => by
  refine back1_in F n h7 hro hn l Bs n₀ a es.length cap es rfl hle J Jx (fun k x W h1 h2 _ => hY _ x W h1 (by rw [down_length]; exact h2)) W ((hW.cell (p := ⟨Bs, 0, none⟩) hBs).trans hc) hcap (fun hp => ?_) h0
  obtain ⟨b, off, ha, hb, he⟩ := hd hp
  refine ⟨b, off, ha, hb, fun i hi => ?_⟩
  have hb' : b < w.heap.size := by omega
  obtain ⟨⟨⟨e0, e1⟩, e2⟩, e3⟩ := he i hi
  exact ⟨⟨⟨(hW.cell (p := ⟨b, _, none⟩) hb').trans e0, (hW.cell (p := ⟨b, _, none⟩) hb').trans e1⟩, (hW.cell (p := ⟨b, _, none⟩) hb').trans e2⟩, (hW.cell (p := ⟨b, _, none⟩) hb').trans e3⟩

/-- The places that have come when k rounds are over. -/
def idxD (n k : Nat) : List Nat := (List.range k).map fun j => n - 1 - j
theorem down_idx (l : List Ent) (k : Nat) : (down l k).map (fun x => x.1.toNat) = idxD l.length k := by simp [down, idxD]
theorem idxD_ents (l : List Ent) : (idxD l.length l.length).map (fun i => l.getD i default) = l.reverse := by
  apply List.ext_getElem
  · simp [idxD]
  · intro i h1 h2
    have : i < l.length := by simpa using h2
    have h3 : l.length - 1 - i < l.length := by omega
    simp [idxD, List.getD, h3]
/-- The same contract by places: what comes is a place's entry. -/
theorem back_places (F : Fence) (n : Nat) (h7 : F.fn 112) (hro : F.round = none) (hn : 1 ≤ n) (Bs n₀ : Nat) (a : Option Addr) (cap : Nat) (es : List Ent) (hle : es.length ≤ 1000000) (w : World) (hBs : Bs < w.heap.size) (hn₀ : n₀ ≤ w.heap.size)
    (hc : w.cell? ⟨Bs, 0, none⟩ = some (.slice a es.length cap)) (hcap : es.length ≤ cap) (hd : 0 < es.length → ∃ b off, a = some ⟨b, off, none⟩ ∧ b < n₀ ∧ EntsAt w b off es) :
    SeqStopsK F n Try.prog 112 #[.pointer (some ⟨Bs, 0, none⟩)] (fun i : Nat => encE ((i : Int), es.getD i default)) (BackK n₀ Bs) (fun ys => ys = idxD es.length es.length) (fun pre => ∃ k, k ≤ es.length ∧ pre = idxD es.length k) es.length w := fun l J Jx W hW _ _ hY h0 => by
  refine CallsIn.mono (back1_in F n h7 hro hn l Bs n₀ a es.length cap es rfl hle (fun d W => J (d.map fun x => x.1.toNat) W) (fun d W => Jx (d.map fun x => x.1.toNat) W) (fun k x W h1 h2 hx => ?_) W ((hW.cell (p := ⟨Bs, 0, none⟩) hBs).trans hc) hcap (fun hp => ?_) h0) ?_
  · subst hx
    have := hY ((down es k).map fun x => x.1.toNat) (es.length - 1 - k) W h1 (by rw [List.length_map, down_length]; exact h2)
    simpa using this
  · obtain ⟨b, off, ha, hb, he⟩ := hd hp
    refine ⟨b, off, ha, hb, fun i hi => ?_⟩
    have hb' : b < w.heap.size := by omega
    obtain ⟨⟨⟨e0, e1⟩, e2⟩, e3⟩ := he i hi
    exact ⟨⟨⟨(hW.cell (p := ⟨b, _, none⟩) hb').trans e0, (hW.cell (p := ⟨b, _, none⟩) hb').trans e1⟩, (hW.cell (p := ⟨b, _, none⟩) hb').trans e2⟩, (hW.cell (p := ⟨b, _, none⟩) hb').trans e3⟩
  · rintro e W' ⟨hv, h | h⟩
    · obtain ⟨ys, rfl, hJ⟩ := h
      exact ⟨hv, .inl ⟨_, rfl, by rw [← down_idx]; exact hJ⟩⟩
    · obtain ⟨pre, ⟨k, hk, rfl⟩, hJ⟩ := h
      exact ⟨hv, .inr ⟨_, ⟨k, hk, rfl⟩, by rw [← down_idx]; exact hJ⟩⟩
end Go.Proofs.Ytblgmjbajnkcdab
/-
  Plain: the last one of a key below an offset. No program in sight.
-/
namespace Go.Proofs.Ytblgmjbajnkcdab
open Go.RowKit

def wantE (key : ByteArray) (below : Int) (x : Ent) : Bool := (x.key.toList == key.toList) && decide (x.off < below)
def lastP (l : List Ent) (key : ByteArray) (below : Int) : Ent × Bool := match l.reverse.find? (wantE key below) with
  | some x => (x, true)
  | none => (default, false)
def latestP (t : Top) (key : ByteArray) (below : Int) : Ent × Bool × Int :=
  if t.may then (if 16 < key.size then (default, false, 3) else ((lastP t.ents key below).1, (lastP t.ents key below).2, 0)) else (default, false, 8)
/-- An entry, whether there is one, a number. -/
def LatEnd (x : Ent) (b : Bool) (n : Int) (w : World) (e : Ending) (w' : World) : Prop :=
  e = .returned (.tuple #[.agg #[.int .i64 x.off, .int .i64 x.id, .string x.key, .string x.body], .bool b, .int .i64 n]) ∧ Below w.heap.size w w'
theorem last_snoc (l : List Ent) (x : Ent) (key : ByteArray) (below : Int) : lastP (l ++ [x]) key below = if wantE key below x then (x, true) else lastP l key below := by
  unfold lastP
  rw [List.reverse_append, List.reverse_singleton, List.singleton_append]
  by_cases h : wantE key below x = true
  · rw [List.find?_cons_of_pos h, if_pos h]
  · rw [List.find?_cons_of_neg h, if_neg h]
end Go.Proofs.Ytblgmjbajnkcdab
/-
  slices.Reverse at entries of the call's own. No condition but that the row is the call's own.
-/
namespace Go.Proofs.Ytblgmjbajnkcdab
open Go.RowKit

theorem flat_set (l : List Ent) (i : Nat) (x : Ent) (hi : i < l.length) :
    ((((l.flatMap entCells).set (i * 4) (.int .i64 x.off)).set (i * 4 + 1) (.int .i64 x.id)).set (i * 4 + 2) (.string x.key)).set (i * 4 + 3) (.string x.body) = (l.set i x).flatMap entCells := by
  induction l generalizing i with
  | nil => simp at hi
  | cons y l ih =>
    cases i with
    | zero => simp [entCells]
    | succ i =>
      have := ih i (by simpa using hi)
      simp only [List.flatMap_cons, List.set_cons_succ, ← this]
      have e : ∀ (m : Nat) (v : Value) (r : List Value), (entCells y ++ r).set (4 + m) v = entCells y ++ r.set m v := fun m v r => by
        rw [List.set_append_right (h := by simp [entCells])]
        simp [entCells]
      have a0 : (i + 1) * 4 = 4 + i * 4 := by omega
      rw [a0, e, Nat.add_assoc, e, Nat.add_assoc, e, Nat.add_assoc, e]

/-- Block g alone may be another. -/
def Only (g : Nat) (w w' : World) : Prop := w'.heap.size = w.heap.size ∧ (∀ b, b ≠ g → w'.heap[b]? = w.heap[b]?) ∧ ∀ B, B ≤ g → B ≤ w.heap.size → Below B w w'
theorem Only.refl (g : Nat) (w : World) : Only g w w := ⟨rfl, fun _ _ => rfl, fun _ _ _ => Below.refl _ _⟩
theorem Only.drew {g : Nat} {w w' : World} (h : Only g w w') : Only g w w'.drew := ⟨h.1, h.2.1, fun B h1 h2 => (h.2.2 B h1 h2).drew⟩
theorem Only.set_ {g : Nat} {w w' : World} (h : Only g w w') (o : Nat) (u : Value) : Only g w (w'.setCell ⟨g, o, none⟩ u) :=
  ⟨by simpa using h.1, fun b hb => (Below.heap_setCell w' ⟨g, o, none⟩ u b hb).trans (h.2.1 b hb), fun B h1 h2 => Below.setCell (p := ⟨g, o, none⟩) (h.2.2 B h1 h2) h1 u⟩

/-- Entry x at place i of an own row. -/
def put4 (W : World) (g i : Nat) (x : Ent) : World := (((W.setCell ⟨g, i * 4, none⟩ (.int .i64 x.off)).setCell ⟨g, i * 4 + 1, none⟩ (.int .i64 x.id)).setCell ⟨g, i * 4 + 2, none⟩ (.string x.key)).setCell ⟨g, i * 4 + 3, none⟩ (.string x.body)
theorem own_put4 {W : World} {B g n cap i : Nat} {l : List Ent} (hn : n = l.length) (h : OwnE W B (.slice (some ⟨g, 0, none⟩) n cap) l) (hi : i < n) (x : Ent) :
    OwnE (put4 W g i x) B (.slice (some ⟨g, 0, none⟩) n cap) (l.set i x) := by
  subst hn
  have h1 := (h.stored (i * 4) (.int .i64 x.off)).1
  have h2 := (h1.stored (i * 4 + 1) (.int .i64 x.id)).1
  have h3 := (h2.stored (i * 4 + 2) (.string x.key)).1
  have h4 := (h3.stored (i * 4 + 3) (.string x.body)).1
  rw [flat_set l i x hi] at h4
  unfold OwnE
  rw [List.length_set]
  exact h4
theorem only_put4 {w W : World} {g : Nat} (h : Only g w W) (i : Nat) (x : Ent) : Only g w (put4 W g i x) := (((h.set_ _ _).set_ _ _).set_ _ _).set_ _ _

def swapE (l : List Ent) (i j : Nat) : List Ent := (l.set i (l.getD j default)).set j (l.getD i default)
/-- Behind i rounds. -/
def RevI (l : List Ent) (i : Nat) (c : List Ent) : Prop := c.length = l.length ∧ ∀ k, k < l.length → c.getD k default = if k < i ∨ l.length - 1 - i < k then l.getD (l.length - 1 - k) default else l.getD k default
theorem revI_zero (l : List Ent) : RevI l 0 l := ⟨rfl, fun k hk => by rw [if_neg (by omega)]⟩
theorem revI_succ {l c : List Ent} {i j : Nat} (h : RevI l i c) (hij : i + j + 1 = l.length) (hlt : i < j) : RevI l (i + 1) (swapE c i j) := by
  obtain ⟨h1, h2⟩ := h
  refine ⟨by simp [swapE, h1], fun k hk => ?_⟩
  have e : (swapE c i j).getD k default = if k = j then c.getD i default else if k = i then c.getD j default else c.getD k default := by
    unfold swapE
    simp only [List.getD_eq_getElem?_getD, List.getElem?_set, List.length_set]
    by_cases hj : j = k
    · subst hj
      rw [if_pos rfl, if_pos (by omega), if_pos rfl]
      rfl
    · rw [if_neg hj, if_neg (fun (e : k = j) => hj e.symm)]
      by_cases hi : i = k
      · subst hi
        rw [if_pos rfl, if_pos (by omega), if_pos rfl]
        rfl
      · rw [if_neg hi, if_neg (fun (e : k = i) => hi e.symm)]
  rw [e]
  by_cases hj : k = j
  · subst hj
    rw [if_pos rfl, h2 i (by omega), if_neg (by omega), if_pos (by omega)]
    congr 1; omega
  · rw [if_neg hj]
    by_cases hi : k = i
    · subst hi
      rw [if_pos rfl, h2 j (by omega), if_neg (by omega), if_pos (by omega)]
      congr 1; omega
    · rw [if_neg hi, h2 k hk]
      by_cases c1 : k < i ∨ l.length - 1 - i < k
      · rw [if_pos c1, if_pos (by omega)]
      · rw [if_neg c1, if_neg (by omega)]
theorem revI_done {l c : List Ent} {i : Nat} (h : RevI l i c) (hi : l.length ≤ 2 * i + 1) : c = l.reverse := by
  obtain ⟨h1, h2⟩ := h
  apply List.ext_getElem (by simp [h1])
  intro k k1 k2
  have hk : k < l.length := by omega
  have h := h2 k hk
  have hk' : l.length - 1 - k < l.length := by omega
  rw [List.getElem_reverse]
  by_cases c1 : k < i ∨ l.length - 1 - i < k
  · rw [if_pos c1] at h
    simpa [List.getD_eq_getElem?_getD, k1, hk'] using h
  · rw [if_neg c1] at h
    have e : l.length - 1 - k = k := by omega
    simp only [e]
    simpa [List.getD_eq_getElem?_getD, k1, hk] using h

/-- The cells of place k. -/
theorem own_at {W : World} {B g n cap k : Nat} {l : List Ent} (hn : n = l.length) (h : OwnE W B (.slice (some ⟨g, 0, none⟩) n cap) l) (hk : k < n) :
    (W.cell? ⟨g, k * 4, none⟩ = some (.int .i64 (l.getD k default).off) ∧ W.cell? ⟨g, k * 4 + 1, none⟩ = some (.int .i64 (l.getD k default).id)) ∧ W.cell? ⟨g, k * 4 + 2, none⟩ = some (.string (l.getD k default).key) ∧ W.cell? ⟨g, k * 4 + 3, none⟩ = some (.string (l.getD k default).body) := by
  obtain ⟨b, off, ha, he⟩ := h.reads.ents.2.2 (by omega)
  cases ha
  obtain ⟨⟨⟨e0, e1⟩, e2⟩, e3⟩ := he k (by omega)
  simp only [Nat.zero_add] at e0 e1 e2 e3
  exact ⟨⟨e0, e1⟩, e2, e3⟩

theorem own_free {W : World} {B g n cap : Nat} {l : List Ent} (hn : n = l.length) (h : OwnE W B (.slice (some ⟨g, 0, none⟩) n cap) l) (o : Nat) : W.frozen? ⟨g, o, none⟩ = false := by
  subst hn
  exact h.frozenAt o

def RevEnd (B : Nat) (v : Value) (l : List Ent) (w : World) (e : Ending) (w' : World) : Prop := (∃ u, e = .returned u) ∧ OwnE w' B v l.reverse ∧ w'.heap.size = w.heap.size ∧ (∀ b, v.ownBlock ≠ some b → w'.heap[b]? = w.heap[b]?) ∧ (B ≤ w.heap.size → Below B w w')

set_option maxHeartbeats 2000000 in
set_option maxRecDepth 100000 in
theorem rev_any {v : Value} {B : Nat} {l : List Ent} {w : World} (h : OwnE w B v l) (hl : l.length ≤ 1000000) :
    Calls Try.prog 108 #[v] w (RevEnd B v l w) := by
  obtain ⟨hlen, ⟨e, h0⟩ | ⟨g, cap, cur, hv, hB, hh, hle, hmx, hr⟩⟩ := id h
  · subst e
    obtain rfl : l = [] := List.eq_nil_of_length_eq_zero h0
    have HO := Lib.hid h
    clear h hlen
    go_enter Try.func108, Try.ntmps108
    go_wp2_with fail
    go_loopg [2, 3] 0 (fun g i j wr => i = .int .i64 0 ∧ j = .int .i64 (-1) ∧ wr = w)
    case atStart => exact ⟨rfl, rfl, rfl⟩
    case round =>
      obtain ⟨rfl, rfl, rfl⟩ := hrel
      go_wp2_with fail
      refine bodyPost_ret (results_none rfl _ _ _) rfl ⟨⟨_, rfl⟩, HO.out, rfl, fun _ _ => rfl, fun _ => Below.refl _ _⟩
  · subst hv
    obtain ⟨n, hn⟩ : ∃ n, n = l.length := ⟨_, rfl⟩
    rw [← hn] at h hle hl ⊢
    have HO := Lib.hid h
    have HN := Lib.hid hn
    have HB := Lib.hid hB
    have hg : g < w.heap.size := (h.lt g rfl).2
    have hle' : (n : Int) ≤ (cap : Int) := by omega
    have hl' : (n : Int) ≤ 1000000 := by omega
    clear h hlen hn hB hh hr hmx
    go_enter Try.func108, Try.ntmps108
    go_wp2_with fail
    go_loopg [2, 3] n (fun m i j wr => ∃ (k : Nat) (c : List Ent), k ≤ n ∧ m = n - k ∧ i = .int .i64 (k : Int) ∧ j = .int .i64 ((n : Int) - 1 - (k : Int)) ∧ Hid (RevI l k c) ∧ Hid (OwnE wr B (.slice (some ⟨g, 0, none⟩) n cap) c) ∧ Hid (Only g w wr))
    case atStart => exact ⟨0, l, Nat.zero_le _, rfl, rfl, by go_num, revI_zero l, HO.out, Only.refl _ _⟩
    case round =>
      obtain ⟨k, c, hk, rfl, rfl, rfl, hi, ho, hw⟩ := hrel
      by_cases hlt : (k : Int) < (n : Int) - 1 - (k : Int)
      · have hk0 : (0 : Int) ≤ (k : Int) := by omega
        have hk1 : (k : Int) < (n : Int) := by omega
        obtain ⟨j, hj⟩ : ∃ j : Nat, (n : Int) - 1 - (k : Int) = (j : Int) := ⟨(n - 1 - k), by omega⟩
        rw [hj] at hlt ⊢
        have hj0 : (0 : Int) ≤ (j : Int) := by omega
        have hj1 : (j : Int) < (n : Int) := by omega
        have hcl : n = c.length := by have := hi.out.1; have := HN.out; omega
        obtain ⟨x, hx⟩ : ∃ x, x = c.getD k default := ⟨_, rfl⟩
        obtain ⟨y, hy⟩ : ∃ y, y = c.getD j default := ⟨_, rfl⟩
        have cc := own_at hcl ho.out (k := k) (by omega)
        have dd := own_at hcl ho.out (k := j) (by omega)
        rw [← hx] at cc
        rw [← hy] at dd
        obtain ⟨⟨c0, c1⟩, c2, c3⟩ := cc
        obtain ⟨⟨d0, d1⟩, d2, d3⟩ := dd
        have cz := own_free hcl ho.out
        have HX := Lib.hid hx
        have HY := Lib.hid hy
        have HCL := Lib.hid hcl
        have HJ := Lib.hid hj
        clear hx hy hcl
        go_wp2_with fail
        go_region
        go_wp2_with fail
        go_roundg (n - (k + 1))
        case measure => omega
        case rel =>
          refine ⟨k + 1, swapE c k j, by omega, rfl, by go_num, ?_, ?_, ?_, ?_⟩
          · have := HJ.out
            go_num
          · exact revI_succ hi.out (by have := HJ.out; have := HN.out; omega) (by omega)
          · have e : swapE c k j = (c.set k y).set j x := by rw [swapE, ← HX.out, ← HY.out]
            rw [e]
            show OwnE (put4 (put4 wr g k y) g j x).drew B _ _
            exact own_drew (own_put4 (by rw [List.length_set]; exact HCL.out) (own_put4 HCL.out ho.out (i := k) (by omega) y) (i := j) (by omega) x)
          · show Only g w (put4 (put4 wr g k y) g j x).drew
            exact (only_put4 (only_put4 hw.out k y) j x).drew
      · have hge : (n : Int) - 1 - (k : Int) ≤ (k : Int) := by omega
        go_wp2_with fail
        have hc : c = l.reverse := revI_done hi.out (by have := HN.out; omega)
        rw [hc] at ho
        refine bodyPost_ret (results_none rfl _ _ _) rfl ⟨⟨_, rfl⟩, ho.out, hw.out.1, fun b hb => hw.out.2.1 b (fun e => hb (by rw [e]; rfl)), fun h => hw.out.2.2 B HB.out h⟩
end Go.Proofs.Ytblgmjbajnkcdab
/-
  Plain: what is left when a topic is compacted. No program in sight.
-/
namespace Go.Proofs.Ytblgmjbajnkcdab
open Go.RowKit

def hasC (l : List ByteArray) (k : ByteArray) : Bool := l.any fun y => decide (y = k)
theorem hasC_iff {l : List ByteArray} {k : ByteArray} : hasC l k = true ↔ k ∈ l := by simp [hasC]
/-- One entry from behind: the keys that are still wanted, what is left. -/
def stepC (m : Int) (s : List ByteArray × List Ent) (x : Ent) : List ByteArray × List Ent :=
  if x.off < m then (if hasC s.1 x.key = true then (s.1.filter fun k => decide (k ≠ x.key), s.2 ++ [x]) else s) else (s.1, s.2 ++ [x])
def keysC (m : Int) (l : List Ent) : List ByteArray := l.foldl (fun s x => if x.off < m then x.key :: s else s) []
def runC (m : Int) (l pre : List Ent) : List ByteArray × List Ent := pre.foldl (stepC m) (keysC m l, [])
def leftC (m : Int) (l : List Ent) : List Ent := (runC m l l.reverse).2.reverse
def markC (t : Top) (to : Int) : Int := max t.mark (min to t.next)
def compactP (t : Top) (to : Int) : Top × Int :=
  if t.may then (if to < 0 ∨ 1073741824 < to then (Top.zero, 2) else (⟨t.base, t.next, markC t to, leftC (markC t to) t.ents⟩, 0)) else (Top.zero, 8)
theorem compactP_bad {t : Top} {to : Int} (h : ¬ t.may) : compactP t to = (Top.zero, 8) := by simp [compactP, h]
theorem compactP_arg {t : Top} {to : Int} (h : t.may) (h' : to < 0 ∨ 1073741824 < to) : compactP t to = (Top.zero, 2) := by simp [compactP, h, h']
theorem compactP_yes {t : Top} {to : Int} (h : t.may) (h' : ¬ (to < 0 ∨ 1073741824 < to)) : compactP t to = (⟨t.base, t.next, markC t to, leftC (markC t to) t.ents⟩, 0) := by simp [compactP, h, h']

theorem keysC_snoc (m : Int) (l : List Ent) (x : Ent) : keysC m (l ++ [x]) = if x.off < m then x.key :: keysC m l else keysC m l := by simp [keysC]
theorem runC_snoc (m : Int) (l pre : List Ent) (x : Ent) : runC m l (pre ++ [x]) = stepC m (runC m l pre) x := by simp [runC]
theorem stepC_out {m : Int} {s : List ByteArray × List Ent} {x : Ent} (h : ¬ x.off < m) : stepC m s x = (s.1, s.2 ++ [x]) := by simp [stepC, h]
theorem stepC_no {m : Int} {s : List ByteArray × List Ent} {x : Ent} (h : x.off < m) (hk : x.key ∉ s.1) : stepC m s x = s := by
  have : ¬ hasC s.1 x.key = true := fun e => hk (hasC_iff.1 e)
  rw [stepC, if_pos h, if_neg this]
theorem stepC_yes {m : Int} {s : List ByteArray × List Ent} {x : Ent} (h : x.off < m) (hk : x.key ∈ s.1) : stepC m s x = (s.1.filter fun k => decide (k ≠ x.key), s.2 ++ [x]) := by rw [stepC, if_pos h, if_pos (hasC_iff.2 hk)]
theorem runC_len (m : Int) (l pre : List Ent) : (runC m l pre).2.length ≤ pre.length := by
  have : ∀ (pre : List Ent) (s : List ByteArray × List Ent), (pre.foldl (stepC m) s).2.length ≤ s.2.length + pre.length := by
    intro pre
    induction pre with
    | nil => intro s; simp
    | cons x pre ih =>
      intro s
      refine Nat.le_trans (ih _) ?_
      have : (stepC m s x).2.length ≤ s.2.length + 1 := by
        unfold stepC
        repeat' split
        all_goals simp
      simp only [List.length_cons]; omega
  simpa [runC] using this pre (keysC m l, [])
theorem leftC_len (m : Int) (l : List Ent) : (leftC m l).length ≤ l.length := by
  have := runC_len m l l.reverse
  simpa [leftC] using this
theorem compactP_len {t u : Top} {to x : Int} (h : compactP t to = (u, x)) : u.ents.length ≤ 200 := by
  by_cases hm : t.may
  · by_cases ht : to < 0 ∨ 1073741824 < to
    · rw [compactP_arg hm ht] at h
      cases h
      exact Nat.zero_le _
    · rw [compactP_yes hm ht] at h
      cases h
      exact Nat.le_trans (leftC_len _ _) hm.1.2.2.2.2.2.2
  · rw [compactP_bad hm] at h
    cases h
    exact Nat.zero_le _
end Go.Proofs.Ytblgmjbajnkcdab
/-
  Plain law of compaction: what is left, told from the front; the document's way is the same; it may be; twice is once; the last ones of keys and what is fetched. No program in sight.
-/
namespace Go.Proofs.Ytblgmjbajnkcdab
open Go.RowKit

/-- Is there one of key k below m? -/
def hasL (m : Int) (k : ByteArray) (l : List Ent) : Bool := l.any fun y => decide (y.off < m) && decide (y.key = k)
theorem hasL_iff {m : Int} {k : ByteArray} {l : List Ent} : hasL m k l = true ↔ ∃ y ∈ l, y.off < m ∧ y.key = k := by simp [hasL]
theorem hasL_no {m : Int} {k : ByteArray} {l : List Ent} : hasL m k l = false ↔ ∀ y ∈ l, y.off < m → y.key ≠ k := by
  rw [← Bool.not_eq_true, hasL_iff]
  constructor
  · exact fun h y hy hm hk => h ⟨y, hy, hm, hk⟩
  · exact fun h ⟨y, hy, hm, hk⟩ => h y hy hm hk
theorem hasL_mono {m n : Int} {k : ByteArray} {l : List Ent} (hmn : m ≤ n) (h : hasL m k l = true) : hasL n k l = true := by
  obtain ⟨y, hy, h1, h2⟩ := hasL_iff.1 h
  exact hasL_iff.2 ⟨y, hy, by omega, h2⟩
theorem hasL_cons (m : Int) (k : ByteArray) (x : Ent) (l : List Ent) : hasL m k (x :: l) = ((decide (x.off < m) && decide (x.key = k)) || hasL m k l) := by simp [hasL]
/-- What is left, told from the front. -/
def keepF (m : Int) : List Ent → List Ent
  | [] => []
  | x :: l => if (decide (x.off < m) && hasL m x.key l) = true then keepF m l else x :: keepF m l
theorem keepF_skip {m : Int} {x : Ent} {l : List Ent} (h : x.off < m) (hh : hasL m x.key l = true) : keepF m (x :: l) = keepF m l := by simp [keepF, h, hh]
theorem keepF_keep {m : Int} {x : Ent} {l : List Ent} (h : ¬ (x.off < m ∧ hasL m x.key l = true)) : keepF m (x :: l) = x :: keepF m l := by
  rw [keepF, if_neg (by simpa using h)]

theorem keysC_iff (m : Int) (k : ByteArray) : ∀ l : List Ent, k ∈ keysC m l ↔ hasL m k l = true := by
  have : ∀ (l : List Ent) (s : List ByteArray), k ∈ l.foldl (fun s x => if x.off < m then x.key :: s else s) s ↔ k ∈ s ∨ hasL m k l = true := by
    intro l
    induction l with
    | nil => intro s; simp [hasL]
    | cons x l ih =>
      intro s
      rw [List.foldl_cons, ih, hasL_cons]
      by_cases h : x.off < m
      · simp only [h, if_true, List.mem_cons, decide_true, Bool.true_and, Bool.or_eq_true, decide_eq_true_eq]
        constructor
        · rintro ((rfl | h) | h)
          · exact Or.inr (Or.inl rfl)
          · exact Or.inl h
          · exact Or.inr (Or.inr h)
        · rintro (h | rfl | h)
          · exact Or.inl (Or.inr h)
          · exact Or.inl (Or.inl rfl)
          · exact Or.inr h
      · simp [h]
  intro l
  have h := this l []
  simpa [keysC] using h
theorem run_keep (m : Int) (l : List Ent) : ∀ (suf pre : List Ent), l = pre ++ suf → (runC m l suf.reverse).2 = (keepF m suf).reverse ∧ ∀ k, k ∈ (runC m l suf.reverse).1 ↔ (hasL m k l = true ∧ hasL m k suf = false)
  | [], _, _ => by
    refine ⟨rfl, fun k => ?_⟩
    show k ∈ keysC m l ↔ _
    rw [keysC_iff]
    simp [hasL]
  | x :: suf, pre, he => by
    obtain ⟨h1, h2⟩ := run_keep m l suf (pre ++ [x]) (by rw [he]; simp)
    rw [List.reverse_cons, runC_snoc]
    by_cases hx : x.off < m
    · have hxl : hasL m x.key l = true := hasL_iff.2 ⟨x, by rw [he]; simp, hx, rfl⟩
      by_cases hs : hasL m x.key suf = true
      · have hno : x.key ∉ (runC m l suf.reverse).1 := fun h => by have := ((h2 _).1 h).2; rw [hs] at this; cases this
        rw [stepC_no hx hno, keepF_skip hx hs]
        refine ⟨h1, fun k => ?_⟩
        rw [h2, hasL_cons]
        by_cases hk : x.key = k
        · subst hk
          simp [hs]
        · simp [hk]
      · have hs' : hasL m x.key suf = false := by simpa using hs
        rw [stepC_yes hx ((h2 _).2 ⟨hxl, hs'⟩), keepF_keep (fun h => hs h.2)]
        refine ⟨by simp [h1], fun k => ?_⟩
        simp only [List.mem_filter, h2, hasL_cons, hx, decide_true, Bool.true_and, Bool.or_eq_false_iff, decide_eq_false_iff_not, decide_eq_true_eq]
        constructor
        · rintro ⟨⟨a, b⟩, c⟩; exact ⟨a, fun e => c e.symm, b⟩
        · rintro ⟨a, c, b⟩; exact ⟨⟨a, b⟩, fun e => c e.symm⟩
    · rw [stepC_out hx, keepF_keep (fun h => hx h.1)]
      refine ⟨by simp [h1], fun k => ?_⟩
      rw [h2, hasL_cons]
      simp [hx]
/-- WHAT THE PROGRAM LEAVES, from the front. -/
theorem left_keep (m : Int) (l : List Ent) : leftC m l = keepF m l := by
  rw [leftC, (run_keep m l l [] rfl).1, List.reverse_reverse]

/-! The last one of a key -/
def lastO (l : List Ent) (k : ByteArray) (b : Int) : Option Ent := l.reverse.find? (wantE k b)
theorem lastP_of (l : List Ent) (k : ByteArray) (b : Int) : lastP l k b = match lastO l k b with | some x => (x, true) | none => (default, false) := rfl
theorem lastO_cons (x : Ent) (l : List Ent) (k : ByteArray) (b : Int) : lastO (x :: l) k b = (lastO l k b).or (if wantE k b x = true then some x else none) := by
  rw [lastO, List.reverse_cons, List.find?_append]
  by_cases h : wantE k b x = true <;> simp [lastO, h]
theorem want_iff {k : ByteArray} {b : Int} {x : Ent} : wantE k b x = true ↔ x.off < b ∧ x.key = k := by
  unfold wantE
  rw [Bool.and_eq_true, beq_iff_eq, decide_eq_true_eq]
  exact ⟨fun h => ⟨h.2, toList_eq h.1⟩, fun h => ⟨by rw [h.2], h.1⟩⟩
theorem lastO_none {l : List Ent} {k : ByteArray} {b : Int} : lastO l k b = none ↔ hasL b k l = false := by
  rw [lastO, List.find?_eq_none, hasL_no]
  constructor
  · exact fun h y hy h1 h2 => h y (by simpa using hy) (want_iff.2 ⟨h1, h2⟩)
  · exact fun h y hy h1 => h y (by simpa using hy) (want_iff.1 h1).1 (want_iff.1 h1).2
theorem lastO_mem {l : List Ent} {k : ByteArray} {b : Int} {y : Ent} (h : lastO l k b = some y) : y ∈ l ∧ y.off < b ∧ y.key = k := by
  have h1 := List.mem_of_find?_eq_some h
  have h2 := List.find?_some h
  exact ⟨by simpa using h1, want_iff.1 h2⟩
theorem lastO_some {l : List Ent} {k : ByteArray} {b : Int} (h : hasL b k l = true) : ∃ y, lastO l k b = some y := by
  cases e : lastO l k b with
  | some y => exact ⟨y, rfl⟩
  | none => rw [lastO_none.1 e] at h; cases h
theorem lastO_keep {m b : Int} (hmb : m ≤ b) (k : ByteArray) : ∀ l : List Ent, lastO (keepF m l) k b = lastO l k b
  | [] => rfl
  | x :: l => by
    by_cases h : x.off < m ∧ hasL m x.key l = true
    · rw [keepF_skip h.1 h.2, lastO_keep hmb k l, lastO_cons]
      by_cases hw : wantE k b x = true
      · obtain ⟨y, hy⟩ := lastO_some (b := b) (k := k) (l := l) (by rw [← (want_iff.1 hw).2]; exact hasL_mono hmb h.2)
        rw [hy]; rfl
      · rw [if_neg hw]; cases lastO l k b <;> rfl
    · rw [keepF_keep h, lastO_cons, lastO_cons, lastO_keep hmb k l]
theorem lastP_keep {m b : Int} (hmb : m ≤ b) (k : ByteArray) (l : List Ent) : lastP (keepF m l) k b = lastP l k b := by rw [lastP_of, lastP_of, lastO_keep hmb]

/-! The document's way -/
def keptR (m : Int) (l : List Ent) (x : Ent) : Bool := decide (m ≤ x.off) || decide ((lastP l x.key m).1.off = x.off)
def refC (m : Int) (l : List Ent) : List Ent := l.filter (keptR m l)
def risesS (l : List Ent) : Prop := l.Pairwise fun x y => x.off < y.off
theorem rises_pair {l : List Ent} (h : rises l) : risesS l := by
  rw [risesS, List.pairwise_iff_getElem]
  intro i j hi hj hij
  have := rises_lt h hij hj
  rwa [getD_at hi, getD_at hj] at this
theorem lastO_split {pre l : List Ent} {x : Ent} {m : Int} (hx : x.off < m) : lastO (pre ++ x :: l) x.key m = (lastO l x.key m).or (some x) := by
  have hw : wantE x.key m x = true := want_iff.2 ⟨hx, rfl⟩
  have e : lastO (pre ++ x :: l) x.key m = (lastO (x :: l) x.key m).or (lastO pre x.key m) := by
    rw [lastO, List.reverse_append, List.find?_append]; rfl
  rw [e, lastO_cons, if_pos hw]
  cases lastO l x.key m <;> rfl
theorem ref_keep {l : List Ent} (m : Int) (h : risesS l) : refC m l = keepF m l := by
  suffices ∀ suf pre : List Ent, l = pre ++ suf → suf.filter (keptR m l) = keepF m suf from this l [] rfl
  intro suf
  induction suf with
  | nil => intro _ _; rfl
  | cons x suf ih =>
    intro pre he
    have ih' := ih (pre ++ [x]) (by rw [he]; simp)
    have hlater : ∀ y ∈ suf, x.off < y.off := by
      rw [he, risesS, List.pairwise_append, List.pairwise_cons] at h
      exact h.2.1.1
    by_cases hx : x.off < m
    · have e : lastO l x.key m = (lastO suf x.key m).or (some x) := by rw [he]; exact lastO_split hx
      by_cases hs : hasL m x.key suf = true
      · obtain ⟨y, hy⟩ := lastO_some hs
        have := hlater y (lastO_mem hy).1
        have hk : keptR m l x = false := by
          rw [keptR, lastP_of, e, hy]
          simp
          omega
        rw [List.filter_cons_of_neg (by simp [hk]), keepF_skip hx hs, ih']
      · have hk : keptR m l x = true := by
          rw [keptR, lastP_of, e, lastO_none.2 (by simpa using hs)]
          simp
        rw [List.filter_cons_of_pos hk, keepF_keep (fun h => hs h.2), ih']
    · have hk : keptR m l x = true := by
        rw [keptR]
        simp
        omega
      rw [List.filter_cons_of_pos hk, keepF_keep (fun h => hx h.1), ih']

/-! What is left may be -/
theorem keepF_sub (m : Int) : ∀ l : List Ent, (keepF m l).Sublist l
  | [] => List.Sublist.refl _
  | x :: l => by
    by_cases h : x.off < m ∧ hasL m x.key l = true
    · rw [keepF_skip h.1 h.2]; exact (keepF_sub m l).cons _
    · rw [keepF_keep h]; exact (keepF_sub m l).cons_cons _
theorem chk_keep {t t' : Top} {m : Int} (h1 : t'.mark = m) (h2 : t'.next = t.next) (hm : t.mark ≤ m) (hn : m ≤ t.next) : ∀ (l : List Ent) (last last' : Int) (seen seen' : List ByteArray), last' ≤ last → (last' = last ∨ last < m) → (∀ k ∈ seen', hasL m k l = false) → Top.chk t last seen l → Top.chk t' last' seen' (keepF m l)
  | [], last, last', _, _, ha, hb, _, h => by
    have h' : max (last + 1) t.mark = t.next := h
    show max (last' + 1) t'.mark = t'.next
    rw [h1, h2]; omega
  | x :: l, last, last', seen, seen', ha, hb, hs, ⟨⟨a1, a2, a3, a4, a5⟩, hr⟩ => by
    have hs2 : ∀ k ∈ seen', hasL m k l = false := fun k hk => by
      have := hs k hk
      rw [hasL_cons, Bool.or_eq_false_iff] at this
      exact this.2
    by_cases h : x.off < m ∧ hasL m x.key l = true
    · rw [keepF_skip h.1 h.2]
      exact chk_keep h1 h2 hm hn l x.off last' _ seen' (by omega) (Or.inr h.1) hs2 hr
    · rw [keepF_keep h]
      refine ⟨⟨a1, by omega, by rw [h2]; exact a3, by rw [h1]; omega, fun hx hk => ?_⟩, chk_keep h1 h2 hm hn l x.off x.off _ _ (Int.le_refl _) (Or.inl rfl) (fun k hk => ?_) hr⟩
      · have := hs _ hk
        rw [hasL_cons, Bool.or_eq_false_iff] at this
        rw [h1] at hx
        simp [hx] at this
      · by_cases hx : x.off < t'.mark
        · rw [if_pos hx] at hk
          rcases List.mem_cons.1 hk with rfl | hk
          · rw [h1] at hx
            cases e : hasL m x.key l with
            | true => exact absurd ⟨hx, e⟩ h
            | false => rfl
          · exact hs2 k hk
        · rw [if_neg hx] at hk
          exact hs2 k hk
def compT (t : Top) (to : Int) : Top := ⟨t.base, t.next, markC t to, keepF (markC t to) t.ents⟩
theorem mark_bounds {t : Top} (h : t.may) (to : Int) : t.mark ≤ markC t to ∧ markC t to ≤ t.next ∧ 0 ≤ markC t to := by
  obtain ⟨a1, a2, a3, a4, a5, a6, a7⟩ := h.1
  unfold markC
  omega
theorem comp_may {t : Top} (to : Int) (h : t.may) : (compT t to).may := by
  obtain ⟨b1, b2, b3⟩ := mark_bounds h to
  obtain ⟨a1, a2, a3, a4, a5, a6, a7⟩ := h.1
  refine (Top.may_iff _).2 ⟨⟨a1, a2, a3, a4, b3, b2, Nat.le_trans (keepF_sub _ _).length_le a7⟩, ?_⟩
  exact chk_keep (t := t) (t' := compT t to) rfl rfl b1 b2 t.ents (t.base - 1) (t.base - 1) [] [] (Int.le_refl _) (Or.inl rfl) (fun _ h => by cases h) ((Top.may_iff t).1 h).2
theorem compactP_T {t : Top} {to : Int} (h : t.may) (h' : ¬ (to < 0 ∨ 1073741824 < to)) : compactP t to = (compT t to, 0) := by rw [compactP_yes h h', left_keep]; rfl
theorem comp_cases {t u : Top} {to e : Int} (h : compactP t to = (u, e)) : (u = Top.zero ∧ (e = 2 ∨ e = 8)) ∨ ((e = 0 ∧ u = compT t to) ∧ (t.may ∧ u.may) ∧ 0 ≤ to ∧ to ≤ 1073741824) := by
  by_cases hm : t.may
  · by_cases ht : to < 0 ∨ 1073741824 < to
    · rw [compactP_arg hm ht] at h; cases h; exact Or.inl ⟨rfl, Or.inl rfl⟩
    · rw [compactP_T hm ht] at h; cases h
      exact Or.inr ⟨⟨rfl, rfl⟩, ⟨hm, comp_may to hm⟩, by omega, by omega⟩
  · rw [compactP_bad hm] at h; cases h; exact Or.inl ⟨rfl, Or.inr rfl⟩

/-! Twice is once -/
theorem hasL_keep {m n : Int} (hmn : m ≤ n) (k : ByteArray) : ∀ l : List Ent, hasL n k (keepF m l) = hasL n k l
  | [] => rfl
  | x :: l => by
    by_cases h : x.off < m ∧ hasL m x.key l = true
    · rw [keepF_skip h.1 h.2, hasL_keep hmn k l, hasL_cons]
      by_cases hk : x.key = k
      · have := hasL_mono hmn h.2
        rw [hk] at this
        rw [this, Bool.or_true]
      · simp [hk]
    · rw [keepF_keep h, hasL_cons, hasL_cons, hasL_keep hmn k l]
theorem keep_keep {m n : Int} (hmn : m ≤ n) : ∀ l : List Ent, keepF n (keepF m l) = keepF n l
  | [] => rfl
  | x :: l => by
    by_cases h : x.off < m ∧ hasL m x.key l = true
    · rw [keepF_skip h.1 h.2, keep_keep hmn l, keepF_skip (by omega) (hasL_mono hmn h.2)]
    · rw [keepF_keep h]
      by_cases h2 : x.off < n ∧ hasL n x.key l = true
      · rw [keepF_skip h2.1 h2.2, keepF_skip h2.1 (by rw [hasL_keep hmn]; exact h2.2), keep_keep hmn l]
      · rw [keepF_keep h2, keepF_keep (by rw [hasL_keep hmn]; exact h2), keep_keep hmn l]
theorem comp_twice {t : Top} {m n : Int} (h : t.may) (hn : 0 ≤ n) (hn2 : n ≤ 1073741824) (hle : m ≤ n) : compactP (compT t m) n = (compT t n, 0) := by
  rw [compactP_T (comp_may m h) (by omega)]
  have e : markC (compT t m) n = markC t n := by
    show max (markC t m) (min n t.next) = _
    unfold markC
    omega
  have e2 : compT (compT t m) n = ⟨t.base, t.next, markC (compT t m) n, keepF (markC (compT t m) n) (keepF (markC t m) t.ents)⟩ := rfl
  rw [e2, e, keep_keep (by unfold markC; omega)]
  rfl
theorem comp_again {t : Top} {m n : Int} (h : t.may) (hm : 0 ≤ m) (hm2 : m ≤ 1073741824) (hle : m ≤ n) : compactP (compT t n) m = (compT t n, 0) := by
  rw [compactP_T (comp_may n h) (by omega)]
  have e : markC (compT t n) m = markC t n := by
    show max (markC t n) (min m t.next) = _
    unfold markC
    omega
  have e2 : compT (compT t n) m = ⟨t.base, t.next, markC (compT t n) m, keepF (markC (compT t n) m) (keepF (markC t n) t.ents)⟩ := rfl
  rw [e2, e, keep_keep (Int.le_refl _)]
  rfl

/-! What is read behind it -/
theorem latest_comp {t : Top} {to : Int} (h : t.may) (k : ByteArray) {b : Int} (hb : markC t to ≤ b) : latestP (compT t to) k b = latestP t k b := by
  rw [latestP, latestP, if_pos h, if_pos (comp_may to h)]
  have e : (compT t to).ents = keepF (markC t to) t.ents := rfl
  rw [e, lastP_keep hb]
theorem find_keep {m o : Int} (h : m ≤ o) : ∀ l : List Ent, (keepF m l).find? (fun x => x.off == o) = l.find? (fun x => x.off == o)
  | [] => rfl
  | x :: l => by
    by_cases hx : x.off < m ∧ hasL m x.key l = true
    · rw [keepF_skip hx.1 hx.2, find_keep h l, List.find?_cons_of_neg (by simp; omega)]
    · rw [keepF_keep hx]
      rw [List.find?_cons, List.find?_cons, find_keep h l]
theorem rises_inj {l : List Ent} (h : rises l) {x y : Ent} (hx : x ∈ l) (hy : y ∈ l) (e : x.off = y.off) : x = y := by
  obtain ⟨i, hi, rfl⟩ := List.getElem_of_mem hx
  obtain ⟨j, hj, rfl⟩ := List.getElem_of_mem hy
  rcases Nat.lt_trichotomy i j with h1 | h1 | h1
  · have := rises_lt h h1 hj
    rw [getD_at hi, getD_at hj] at this
    omega
  · subst h1; rfl
  · have := rises_lt h h1 hi
    rw [getD_at hi, getD_at hj] at this
    omega
theorem find_keep_or {m o : Int} {l : List Ent} (h : rises l) : (keepF m l).find? (fun x => x.off == o) = l.find? (fun x => x.off == o) ∨ (keepF m l).find? (fun x => x.off == o) = none := by
  cases e : (keepF m l).find? (fun x => x.off == o) with
  | none => exact Or.inr rfl
  | some y =>
    left
    have h1 := (keepF_sub m l).subset (List.mem_of_find?_eq_some e)
    have h2 := List.find?_some e
    cases e' : l.find? (fun x => x.off == o) with
    | none => exact absurd h2 (List.find?_eq_none.1 e' y h1)
    | some z =>
      have h3 := List.mem_of_find?_eq_some e'
      have h4 := List.find?_some e'
      simp only [beq_iff_eq] at h2 h4
      rw [rises_inj h h1 h3 (by omega)]
theorem fetch_comp_high {t : Top} {to o : Int} (h : t.may) (ho : o < 0 ∨ markC t to ≤ o) : fetchP (compT t to) o = fetchP t o := by
  rw [fetchP, fetchP, if_pos h, if_pos (comp_may to h)]
  have e : (compT t to).ents = keepF (markC t to) t.ents := rfl
  have e1 : (compT t to).next = t.next := rfl
  have e2 : (compT t to).base = t.base := rfl
  rw [e, e1, e2]
  by_cases h1 : o < 0
  · rw [if_pos h1, if_pos h1]
  · rw [if_neg h1, if_neg h1, find_keep (by omega)]
theorem fetch_comp {t : Top} {to o : Int} (h : t.may) : fetchP (compT t to) o = fetchP t o ∨ ((fetchP t o).2 = 0 ∧ fetchP (compT t to) o = (default, 172)) := by
  rw [fetchP, fetchP, if_pos h, if_pos (comp_may to h)]
  have e : (compT t to).ents = keepF (markC t to) t.ents := rfl
  have e1 : (compT t to).next = t.next := rfl
  have e2 : (compT t to).base = t.base := rfl
  rw [e, e1, e2]
  by_cases h1 : o < 0
  · left; rw [if_pos h1, if_pos h1]
  · rw [if_neg h1, if_neg h1]
    by_cases h2 : t.next ≤ o
    · left; rw [if_pos h2, if_pos h2]
    · rw [if_neg h2, if_neg h2]
      by_cases h3 : o < t.base
      · left; rw [if_pos h3, if_pos h3]
      · rw [if_neg h3, if_neg h3]
        rcases find_keep_or (m := markC t to) (o := o) (may_rises h) with h4 | h4
        · left; rw [h4]
        · rw [h4]
          cases t.ents.find? (fun x => x.off == o) with
          | none => left; rfl
          | some x => right; exact ⟨rfl, rfl⟩
end Go.Proofs.Ytblgmjbajnkcdab
/-
  compact.Compact where nothing is compacted. No condition but that the topic reads.
-/
namespace Go.Proofs.Ytblgmjbajnkcdab
open Go.RowKit Go.Shelf

attribute [local go_sem] Oper.semAt_some

set_option maxHeartbeats 2000000 in
set_option maxRecDepth 100000 in
theorem compact_bad {v : Value} {t : Top} {w : World} (to : Int) (h : TopR w v t) (hk : ∀ x ∈ t.ents, x.key.size ≤ maxLen) (hm : ¬ t.may) :
    Calls Try.prog 81 #[v, .int .i64 to] w (TopEnd1 Top.zero 8 w) := by
  have T := Lib.hid h
  have HK := Lib.hid hk
  have HM := Lib.hid hm
  obtain ⟨a, cap, rfl, _⟩ := h
  clear hk hm
  go_enter Try.func81, Try.ntmps81
  go_wp2_with fail
  refine Calls.mono (check_no ?_ HK.out HM.out) ?_
  · exact T.out.below (by repeat (first | (with_reducible exact Below.refl _ _) | (with_reducible exact Below.refl _ _) | (with_reducible apply Below.drew) | (with_reducible apply below_alloc) | ((with_reducible refine Below.alloc ?_ ?_ _); rotate_left; focus (first | (simp; done) | (simp; omega) | omega)) | ((with_reducible refine Below.setCell ?_ ?_ _); rotate_left; focus (first | (simp; done) | (simp; omega) | omega))))
  rintro e w2 ⟨rfl, hb⟩
  have HB : Hid (Below w.heap.size w _) := below_step (by repeat (first | (with_reducible exact Below.refl _ _) | (with_reducible exact Below.refl _ _) | (with_reducible apply Below.drew) | (with_reducible apply below_alloc) | ((with_reducible refine Below.alloc ?_ ?_ _); rotate_left; focus (first | (simp; done) | (simp; omega) | omega)) | ((with_reducible refine Below.setCell ?_ ?_ _); rotate_left; focus (first | (simp; done) | (simp; omega) | omega)))) hb
  have R : Blk _ (w.heap.size + 1) _ _ := Blk.step (by repeat (first | ((with_reducible apply Blk.new); focus (first | rfl | (simp; done) | (simp; omega))) | (with_reducible apply Blk.drew) | (with_reducible apply Blk.alloc) | (with_reducible apply Blk.set_) | ((with_reducible apply Blk.far); rotate_left; focus (first | (simp; done) | (simp; omega) | omega)))) hb
  obtain ⟨r0, r1, r2, r3, rz⟩ := cells4 R
  have rl := Blk.lt R
  have HR := Lib.hid R
  clear R
  clear hb
  go_wp2_with fail
  refine bodyPost_ret (v := .tuple #[noTop, .int .i64 8]) (by simp [noTop, results, Try.results81, go_sem, r0, r1, r2, r3]) rfl (topEnd1_zero 8 rfl ?_)
  repeat (first | (with_reducible exact HB.out) | (with_reducible exact Below.refl _ _) | (with_reducible apply Below.drew) | (with_reducible apply below_alloc) | ((with_reducible refine Below.alloc ?_ ?_ _); rotate_left; focus (first | (simp; done) | (simp; omega) | omega)) | ((with_reducible refine Below.setCell ?_ ?_ _); rotate_left; focus (first | (simp; done) | (simp; omega) | omega)))

set_option maxHeartbeats 2000000 in
set_option maxRecDepth 100000 in
theorem compact_arg {v : Value} {t : Top} {w : World} (to : Int) (h : TopR w v t) (hk : ∀ x ∈ t.ents, x.key.size ≤ maxLen) (hm : t.may) (hto : to < 0 ∨ 1073741824 < to) :
    Calls Try.prog 81 #[v, .int .i64 to] w (TopEnd1 Top.zero 2 w) := by
  have T := Lib.hid h
  have HK := Lib.hid hk
  have HM := Lib.hid hm
  obtain ⟨a, cap, rfl, _⟩ := h
  clear hk hm
  have hto2 : to < 0 ∨ (0 ≤ to ∧ 1073741824 < to) := by omega
  clear hto
  rcases hto2 with h1 | ⟨h1, h2⟩
  all_goals
    go_enter Try.func81, Try.ntmps81
    go_wp2_with fail
    refine Calls.mono (check_yes ?_ HK.out HM.out) ?_
    · exact T.out.below (by repeat (first | (with_reducible exact Below.refl _ _) | (with_reducible exact Below.refl _ _) | (with_reducible apply Below.drew) | (with_reducible apply below_alloc) | ((with_reducible refine Below.alloc ?_ ?_ _); rotate_left; focus (first | (simp; done) | (simp; omega) | omega)) | ((with_reducible refine Below.setCell ?_ ?_ _); rotate_left; focus (first | (simp; done) | (simp; omega) | omega))))
    rintro e w2 ⟨rfl, hb⟩
    have HB : Hid (Below w.heap.size w _) := below_step (by repeat (first | (with_reducible exact Below.refl _ _) | (with_reducible exact Below.refl _ _) | (with_reducible apply Below.drew) | (with_reducible apply below_alloc) | ((with_reducible refine Below.alloc ?_ ?_ _); rotate_left; focus (first | (simp; done) | (simp; omega) | omega)) | ((with_reducible refine Below.setCell ?_ ?_ _); rotate_left; focus (first | (simp; done) | (simp; omega) | omega)))) hb
    have R : Blk _ (w.heap.size + 1) _ _ := Blk.step (by repeat (first | ((with_reducible apply Blk.new); focus (first | rfl | (simp; done) | (simp; omega))) | (with_reducible apply Blk.drew) | (with_reducible apply Blk.alloc) | (with_reducible apply Blk.set_) | ((with_reducible apply Blk.far); rotate_left; focus (first | (simp; done) | (simp; omega) | omega)))) hb
    obtain ⟨r0, r1, r2, r3, rz⟩ := cells4 R
    have rl := Blk.lt R
    have HR := Lib.hid R
    clear R
    clear hb
    go_wp2_with fail
    refine bodyPost_ret (v := .tuple #[noTop, .int .i64 2]) (by simp [noTop, results, Try.results81, go_sem, r0, r1, r2, r3]) rfl (topEnd1_zero 2 rfl ?_)
    repeat (first | (with_reducible exact HB.out) | (with_reducible exact Below.refl _ _) | (with_reducible apply Below.drew) | (with_reducible apply below_alloc) | ((with_reducible refine Below.alloc ?_ ?_ _); rotate_left; focus (first | (simp; done) | (simp; omega) | omega)) | ((with_reducible refine Below.setCell ?_ ?_ _); rotate_left; focus (first | (simp; done) | (simp; omega) | omega)))
end Go.Proofs.Ytblgmjbajnkcdab
/-
  compact.Compact. No condition but that the topic reads.
-/
namespace Go.Proofs.Ytblgmjbajnkcdab
open Go.RowKit Go.Shelf

attribute [local go_sem] Oper.semAt_some

theorem at_codeIn {F : Fence} {n : Nat} {P : Program} {c : Code} {Q : Exit → Act → World → Prop} {a : Act} {w : World} (C : World → Prop) (h : C w) (k : ∀ W, C W → Code.wpIn F n P c Q a W) : Code.wpIn F n P c Q a w := k w h

theorem slots_ax {C D : Prop} {l : List Value} {df : List Deferred} (g : (Nat → Value) → Act) (h1 : C) (h2 : D) (h : ({ tmps := l.toArray, defers := df } : Act) = g (fun i => l.getD i undef)) : ∃ f, C ∧ D ∧ ({ tmps := l.toArray, defers := df } : Act) = g f := ⟨_, h1, h2, h⟩

/-- Between two rounds of the first loop. -/
def CmpL (w w2 w3 : World) (t : Top) (m : Int) (a : Option Addr) (n cap k : Nat) (W : World) : Prop :=
  (Blk W w.heap.size 70 [.int .i64 t.base, .int .i64 t.next, .int .i64 m, .slice a n cap] ∧ Blk W (w.heap.size + 1) 70 [.int .i64 0, .int .i64 0, .int .i64 0, .slice none 0 0]) ∧
  Blk W (w3.heap.size + 1) 136 [.map (some w3.heap.size)] ∧ Seen Try.prog 9 3 W w3.heap.size k (keysC m (t.ents.take k)) ∧ OwnE W w2.heap.size (.slice a n cap) t.ents ∧ Below w.heap.size w W

theorem seen_far {P : Program} {ts ti : TypeId} {W : World} {b n : Nat} {l : List ByteArray} (h : Seen P ts ti W b n l) {g o : Nat} (hp : b ≠ g) (u : Value) : Seen P ts ti (W.setCell ⟨g, o, none⟩ u) b n l := h.same (Below.heap_setCell W ⟨g, o, none⟩ u b hp)
theorem seen_alloc {P : Program} {ts ti : TypeId} {W : World} {b n : Nat} {l : List ByteArray} (h : Seen P ts ti W b n l) (o : Obj) : Seen P ts ti (W.alloc o) b n l := h.same (Below.heap_alloc W o b h.lt)
theorem own_other {W W' : World} {B : Nat} {v : Value} {l : List Ent} {row : Option Nat} (h : OwnE W B v l) (hg : W.grownBy W' row) (hr : ∀ r, row = some r → ∃ o : Obj, W.heap[r]? = some o ∧ o.isCells = false) : OwnE W' B v l :=
  ⟨h.1, h.2.elim Or.inl (fun ⟨g, cp, cur, hv, hB, hh, r⟩ => Or.inr ⟨g, cp, cur, hv, hB, (hg.block g (Array.getElem?_eq_some_iff.1 hh).1 (fun e => by
    obtain ⟨o, ho, hc⟩ := hr g e.symm
    rw [hh] at ho
    cases ho
    cases hc)).trans hh, r⟩)⟩

theorem own_grown {W W' : World} {B r : Nat} {v : Value} {l : List Ent} (h : OwnE W B v l) (hg : W.grownBy W' (some r)) (hr : v.ownBlock ≠ some r) : OwnE W' B v l :=
  ⟨h.1, h.2.elim Or.inl (fun ⟨g, cp, cur, hv, hB, hh, q⟩ => Or.inr ⟨g, cp, cur, hv, hB, (hg.block g (Array.getElem?_eq_some_iff.1 hh).1 (fun e => hr (by rw [hv, ← e]; rfl))).trans hh, q⟩)⟩
/-- Between two rounds of the second loop: the keys that are wanted; what is left so far lies behind the loop's own cells. -/
def CmpJ (w w3 : World) (t : Top) (m : Int) (a : Option Addr) (n cap lb : Nat) (K : List ByteArray) (E : List Ent) (al : Option Addr) (capl : Nat) (W : World) : Prop :=
  (Blk W w.heap.size 70 [.int .i64 t.base, .int .i64 t.next, .int .i64 m, .slice a n cap] ∧ Blk W (w.heap.size + 1) 70 [.int .i64 0, .int .i64 0, .int .i64 0, .slice none 0 0]) ∧
  Blk W (w3.heap.size + 1) 136 [.map (some w3.heap.size)] ∧ (∃ k, Seen Try.prog 9 3 W w3.heap.size k K) ∧
  (Blk W lb 68 [.slice al E.length capl] ∧ OwnE W (lb + 2) (.slice al E.length capl) E) ∧
  Blk W (lb + 1) 68 [.slice a n cap] ∧ Below w.heap.size w W
def CmpI (w w3 : World) (t : Top) (m : Int) (a : Option Addr) (n cap lb : Nat) (pre : List Nat) (W : World) : Prop :=
  ∃ al capl, CmpJ w w3 t m a n cap lb (runC m t.ents (pre.map fun i => t.ents.getD i default)).1 (runC m t.ents (pre.map fun i => t.ents.getD i default)).2 al capl W
theorem cmpI_own {w w3 : World} {t : Top} {m : Int} {a : Option Addr} {n cap lb C : Nat} (hw : w.heap.size ≤ C) (hC : w3.heap.size < C) : OwnFrom C (CmpI w w3 t m a n cap lb) := fun s W W' row hs hg hr => by
  have hr' : ∀ r, row = some r → ∃ o : Obj, W.heap[r]? = some o ∧ o.isCells = false := fun r e => (hr r e).2
  obtain ⟨al, capl, ⟨h1, h2⟩, h3, ⟨k, h4⟩, ⟨h5, h6⟩, h7, h8⟩ := hs
  exact ⟨al, capl, ⟨blk_row h1 hg hr', blk_row h2 hg hr'⟩, blk_row h3 hg hr', ⟨k, h4.same (hg.block _ h4.lt (fun e => by have := (hr _ e.symm).1; omega))⟩, ⟨blk_row h5 hg hr', own_other h6 hg hr'⟩, blk_row h7 hg hr', h8.grown hg h8.size (fun k e => Nat.le_trans hw (hr k e).1)⟩
theorem own_keeps {W W' : World} {B : Nat} {v : Value} {l : List Ent} (h : OwnE W B v l) (hg : W.grownBy W' v.ownBlock) : KeepsOthers W W' := KeepsOthers.of_grownBy hg (fun j o e ho => by
  rcases h.2 with ⟨e', _⟩ | ⟨g, cp, cur, hv, _, hh, _⟩
  · rw [e'] at e; cases e
  · rw [hv] at e; cases e; rw [hh] at ho; cases ho; rfl)
/-- One entry more is left. -/
theorem cmpJ_push {w w3 W w6 : World} {t : Top} {m : Int} {a al a6 : Option Addr} {n cap lb capl cap6 : Nat} {K : List ByteArray} {E E6 : List Ent} {o : Obj} (h : CmpJ w w3 t m a n cap lb K E al capl W) (b1 : w.heap.size + 1 < lb) (b2 : w3.heap.size + 1 < lb) {q : Nat} (hq : E6.length = q)
    (hg : (W.alloc o).grownBy w6 (Value.slice al E.length capl).ownBlock) (ho : OwnE w6 (lb + 2) (.slice a6 E6.length cap6) E6) :
    CmpJ w w3 t m a n cap lb K E6 a6 cap6 (w6.setCell ⟨lb, 0, none⟩ (.slice a6 q cap6)) ∧ KeepsOthers W (w6.setCell ⟨lb, 0, none⟩ (.slice a6 q cap6)) ∧ BackK w3.heap.size (lb + 1) W (w6.setCell ⟨lb, 0, none⟩ (.slice a6 q cap6)) := by
  subst hq
  obtain ⟨⟨h1, h2⟩, h3, ⟨k, h4⟩, ⟨h5, h6⟩, h7, h8⟩ := h
  have ne : ∀ g, g < lb + 2 → (Value.slice al E.length capl).ownBlock ≠ some g := fun g hg e => by have := (h6.lt _ e).1; omega
  have hlb := h7.lt
  have g7 := ((h7.alloc o).grown hg (ne _ (by omega))).far (b := lb) (o := 0) (by omega) (.slice a6 E6.length cap6)
  refine ⟨⟨⟨?_, ?_⟩, ?_, ⟨k, ?_⟩, ⟨?_, ?_⟩, g7, ?_⟩, ?_, ?_, g7.trans h7.symm⟩
  · exact ((h1.alloc o).grown hg (ne _ (by omega))).far (by omega) _
  · exact ((h2.alloc o).grown hg (ne _ (by omega))).far (by omega) _
  · exact ((h3.alloc o).grown hg (ne _ (by omega))).far (by omega) _
  · exact seen_far ((seen_alloc h4 o).same (hg.block _ (seen_alloc h4 o).lt (fun e => ne _ (by omega) e.symm))) (by omega) _
  · have := ((h5.alloc o).grown hg (ne _ (by omega))).set_ 0 (.slice a6 E6.length cap6)
    simpa only [List.set_cons_zero] using this
  · exact own_set ho (by omega)
  · exact Below.setCell (p := ⟨lb, 0, none⟩) ((below_alloc h8).grown hg (by have := h8.size; simp; omega) (fun j e => by have := (h6.lt j e).1; omega)) (by simp; omega) _
  · exact ((KeepsOthers.alloc _ _).trans (own_keeps (own_alloc h6) hg)).trans (KeepsOthers.setCell _ _ _)
  · exact Below.setCell (p := ⟨lb, 0, none⟩) (((Below.refl _ _).alloc (by omega) o).grown hg (by simp; omega) (fun j e => by have := (h6.lt j e).1; omega)) (by simp; omega) _

/-- The end of the call. -/
theorem cmp_end {n : Nat} {w W : World} {a : Act} {D : Nat} {u : Top} {al : Option Addr} {capl : Nat} (hD : w.heap.size ≤ D) (hf : a.defers = [{ target := .collected D, args := #[] }]) (h4 : a.tmps[4]?.getD undef = .pointer (some ⟨w.heap.size + 1, 0, none⟩)) (h5 : a.tmps[5]?.getD undef = .int .i64 0)
    (hR : Blk W (w.heap.size + 1) 70 [.int .i64 u.base, .int .i64 u.next, .int .i64 u.mark, .slice al u.ents.length capl]) (hO : OwnE W w.heap.size (.slice al u.ents.length capl) u.ents) (hB : Below w.heap.size w W) (hKD : W.heap[D]? = some (.deferred (some []))) :
    bodyPostM Fence.wide n Try.prog Try.f81 (TopEnd1 u 0 w) Exit.ret a W := by
  obtain ⟨tm, df⟩ := a
  simp only at hf h4 h5
  subst hf
  have pr : ∀ r, some D = some r → ∃ o : Obj, W.heap[r]? = some o ∧ o.isCells = false := fun r e => by cases e; exact ⟨_, hKD, rfl⟩
  obtain ⟨x0, x1, x2, x3, xz⟩ := cells4 (blk_row hR (grownBy_putObj' W D (.deferred none)) pr)
  refine ⟨by simp, .inl ⟨_, _, rfl, run_takeDeferred hKD, ?_⟩⟩
  refine ⟨.tuple #[.agg #[.int .i64 u.base, .int .i64 u.next, .int .i64 u.mark, .slice al u.ents.length capl], .int .i64 0], ?_, al, capl, rfl, own_other hO (grownBy_putObj' W D (.deferred none)) pr, hB.trans (belowK_b (w := w) (Nat.le_refl _) W D _ _ hD hKD rfl rfl)⟩
  simp [results, Try.results81, go_sem, x0, x1, x2, x3, h4, h5]

set_option maxHeartbeats 4000000 in
set_option maxRecDepth 100000 in
theorem compact_yes {v : Value} {t : Top} {w : World} (to : Int) (h : TopR w v t) (hk : ∀ x ∈ t.ents, x.key.size ≤ maxLen) (hm : t.may) (h1 : 0 ≤ to) (h2 : to ≤ 1073741824) :
    Calls Try.prog 81 #[v, .int .i64 to] w (TopEnd1 ⟨t.base, t.next, markC t to, leftC (markC t to) t.ents⟩ 0 w) := by
  obtain ⟨i0, hi, hz0, hz1, hz2⟩ := info_parts info_ent
  have T := Lib.hid h
  have HKK := Lib.hid hk
  have HM := Lib.hid hm
  have HLE := Lib.hid (show t.ents.length ≤ 1000000 by have := hm.1.2.2.2.2.2.2; omega)
  obtain ⟨a, cap, rfl, _⟩ := h
  clear hk hm
  have hmm := @run_makeMap Try.prog
  refine (callsIn_wide (n := 4)).1 ?_
  refine callsIn_of_wp_marks Try.func81 rfl trivial ?_ rfl
  simp only [Try.ntmps81, List.size_toArray, List.length_cons, List.length_nil, Nat.reduceAdd, Nat.reduceSub, Array.replicate_succ, Array.replicate_zero, List.push_toArray, List.append_toArray, List.nil_append, List.cons_append]
  gi_wp2_with fail
  refine ⟨trivial, ?_⟩
  refine CallsIn.mono (callsIn_wide.2 (check_yes (t := t) ?_ HKK.out HM.out)) ?_
  · exact T.out.below (by repeat (first | (with_reducible exact Below.refl _ _) | (with_reducible exact Below.refl _ _) | (with_reducible apply Below.drew) | (with_reducible apply below_alloc) | ((with_reducible refine Below.alloc ?_ ?_ _); rotate_left; focus (first | (simp; done) | (simp; omega) | omega)) | ((with_reducible refine Below.setCell ?_ ?_ _); rotate_left; focus (first | (simp; done) | (simp; omega) | omega))))
  rintro e w2 ⟨rfl, hb⟩
  have HB : Hid (Below w.heap.size w _) := below_step (by repeat (first | (with_reducible exact Below.refl _ _) | (with_reducible exact Below.refl _ _) | (with_reducible apply Below.drew) | (with_reducible apply below_alloc) | ((with_reducible refine Below.alloc ?_ ?_ _); rotate_left; focus (first | (simp; done) | (simp; omega) | omega)) | ((with_reducible refine Below.setCell ?_ ?_ _); rotate_left; focus (first | (simp; done) | (simp; omega) | omega)))) hb
  have P : Blk _ (w.heap.size) _ _ := Blk.step (by repeat (first | ((with_reducible apply Blk.new); focus (first | rfl | (simp; done) | (simp; omega))) | (with_reducible apply Blk.drew) | (with_reducible apply Blk.alloc) | (with_reducible apply Blk.set_) | ((with_reducible apply Blk.far); rotate_left; focus (first | (simp; done) | (simp; omega) | omega)))) hb
  obtain ⟨p0, p1, p2, p3, pz⟩ := cells4 P
  have pl := Blk.lt P
  have HP := Lib.hid P
  clear P
  have R : Blk _ (w.heap.size + 1) _ _ := Blk.step (by repeat (first | ((with_reducible apply Blk.new); focus (first | rfl | (simp; done) | (simp; omega))) | (with_reducible apply Blk.drew) | (with_reducible apply Blk.alloc) | (with_reducible apply Blk.set_) | ((with_reducible apply Blk.far); rotate_left; focus (first | (simp; done) | (simp; omega) | omega)))) hb
  obtain ⟨r0, r1, r2, r3, rz⟩ := cells4 R
  have rl := Blk.lt R
  have HR := Lib.hid R
  clear R
  have T2 := Lib.hid (T.out.below HB.out)
  clear hb
  gi_wp2_with fail
  refine ⟨trivial, ?_⟩
  refine CallsIn.mono (callsIn_wide.2 (topTwin_any T2.out HLE.out)) ?_
  rintro e w3 ⟨a3, cap3, rfl, o3, hb⟩
  have s2 : w.heap.size + 2 ≤ w2.heap.size := by omega
  replace HB : Hid (Below w.heap.size w _) := below_step (by repeat (first | (with_reducible exact HB.out) | (with_reducible exact Below.refl _ _) | (with_reducible apply Below.drew) | (with_reducible apply below_alloc) | ((with_reducible refine Below.alloc ?_ ?_ _); rotate_left; focus (first | (simp; done) | (simp; omega) | omega)) | ((with_reducible refine Below.setCell ?_ ?_ _); rotate_left; focus (first | (simp; done) | (simp; omega) | omega)))) hb
  clear p0 p1 p2 p3 pz pl
  replace HP : Hid (Blk _ (w.heap.size) _ _) := Blk.step (by repeat (first | (with_reducible exact HP.out) | ((with_reducible apply Blk.new); focus (first | rfl | (simp; done) | (simp; omega))) | (with_reducible apply Blk.drew) | (with_reducible apply Blk.alloc) | (with_reducible apply Blk.set_) | ((with_reducible apply Blk.far); rotate_left; focus (first | (simp; done) | (simp; omega) | omega)))) hb
  obtain ⟨p0, p1, p2, p3, pz⟩ := cells4 HP.out
  have pl := Blk.lt HP.out
  clear r0 r1 r2 r3 rz rl
  replace HR : Hid (Blk _ (w.heap.size + 1) _ _) := Blk.step (by repeat (first | (with_reducible exact HR.out) | ((with_reducible apply Blk.new); focus (first | rfl | (simp; done) | (simp; omega))) | (with_reducible apply Blk.drew) | (with_reducible apply Blk.alloc) | (with_reducible apply Blk.set_) | ((with_reducible apply Blk.far); rotate_left; focus (first | (simp; done) | (simp; omega) | omega)))) hb
  obtain ⟨r0, r1, r2, r3, rz⟩ := cells4 HR.out
  have rl := Blk.lt HR.out
  have s3 : w2.heap.size ≤ w3.heap.size := hb.size
  have O3 := Lib.hid o3
  clear hb o3
  gi_wp2_with fail
  have hmc : max t.mark (min to t.next) = markC t to := rfl
  rw [hmc]
  obtain ⟨m, hmk⟩ : ∃ m, markC t to = m := ⟨_, rfl⟩
  rw [hmk]
  have HMK := Lib.hid hmk
  clear hmc hmk
  obtain ⟨n, hn⟩ : ∃ n, n = t.ents.length := ⟨_, rfl⟩
  rw [← hn] at O3 HLE ⊢
  have HN := Lib.hid hn
  clear hn
  refine at_codeIn (fun W => CmpL w w2 w3 t m a3 n cap3 0 W) ⟨⟨?_, ?_⟩, ?_, ?_, ?_, ?_⟩ ?_
  · have g0 := ((((HP.out.set_ 0 (.int .i64 t.base)).set_ 1 (.int .i64 t.next)).set_ 2 (.int .i64 t.mark)).set_ 3 (.slice a3 n cap3)).set_ 2 (.int .i64 m)
    simp only [List.set_cons_zero, List.set_cons_succ] at g0
    exact Blk.alloc (Blk.alloc g0 _) _
  · repeat (first | (with_reducible exact HR.out) | ((with_reducible apply Blk.new); focus (first | rfl | (simp; done) | (simp; omega))) | (with_reducible apply Blk.drew) | (with_reducible apply Blk.alloc) | (with_reducible apply Blk.set_) | ((with_reducible apply Blk.far); rotate_left; focus (first | (simp; done) | (simp; omega) | omega)))
  · exact Blk.new (by simp)
  · refine seen_alloc ?_ _
    have g0 := Seen.made Try.prog 9 3 (((((w3.setCell ⟨w.heap.size, 0, none⟩ (.int .i64 t.base)).setCell ⟨w.heap.size, 1, none⟩ (.int .i64 t.next)).setCell ⟨w.heap.size, 2, none⟩ (.int .i64 t.mark)).setCell ⟨w.heap.size, 3, none⟩ (.slice a3 n cap3)).setCell ⟨w.heap.size, 2, none⟩ (.int .i64 m))
    simpa [keysC] using g0
  · repeat (first | (with_reducible exact O3.out) | (with_reducible apply own_drew) | (with_reducible apply own_alloc) | ((with_reducible apply own_set); rotate_left; focus (first | (simp; done) | (simp; omega) | omega)))
  · repeat (first | (with_reducible exact HB.out) | (with_reducible exact Below.refl _ _) | (with_reducible apply Below.drew) | (with_reducible apply below_alloc) | ((with_reducible refine Below.alloc ?_ ?_ _); rotate_left; focus (first | (simp; done) | (simp; omega) | omega)) | ((with_reducible refine Below.setCell ?_ ?_ _); rotate_left; focus (first | (simp; done) | (simp; omega) | omega)))
  clear HP HR p0 p1 p2 p3 pz r0 r1 r2 r3 rz pl rl
  rintro W0 hL
  have HL0 := Lib.hid hL
  obtain ⟨⟨hP0, _⟩, _⟩ := hL
  obtain ⟨p0, p1, p2, p3, pz⟩ := cells4 hP0
  clear hP0
  have hn' : (n : Int) ≤ 1000000 := by have := HLE.out; omega
  have hbl : ∀ g, (Value.slice a3 n cap3).ownBlock = some g → g < w3.heap.size := fun g e => (O3.out.lt g e).2
  have HBL := Lib.hid hbl
  clear hbl
  gi_wp2
  gi_loopw [40] (fun i wr => ∃ k : Nat, k ≤ n ∧ i = .int .i64 (k : Int) ∧ Hid (CmpL w w2 w3 t m a3 n cap3 k wr)) (fun i _ => ((n : Int) - intOf i).toNat)
  case atStart => exact ⟨0, Nat.zero_le _, rfl, HL0.out⟩
  case round =>
    obtain ⟨k, hk, rfl, hL⟩ := hrel
    clear p0 p1 p2 p3 pz HL0
    by_cases hlt : k < n
    · have hk0 : (0 : Int) ≤ (k : Int) := by omega
      have hk1 : (k : Int) < (n : Int) := by omega
      obtain ⟨⟨hP, hR⟩, hM, hS, hO, hB⟩ := hL.out
      have HPx := Lib.hid hP
      have HRx := Lib.hid hR
      have HMx := Lib.hid hM
      have HOx := Lib.hid hO
      have HBx := Lib.hid hB
      have hws : w.heap.size < wr.heap.size := hP.lt
      obtain ⟨p0, p1, p2, p3, pz⟩ := cells4 hP
      obtain ⟨m0, mz⟩ := cells1 hM
      have hmb := hM.lt
      obtain ⟨⟨-, hcap⟩, -, hd⟩ := hO.reads.ents
      obtain ⟨bb, off, ha, hcc⟩ := hd (by omega)
      subst ha
      have cc := hcc k (by rw [← HN.out]; exact hlt)
      obtain ⟨x, hx⟩ : ∃ x, x = t.ents.getD k default := ⟨_, rfl⟩
      rw [← hx] at cc
      obtain ⟨⟨⟨c0, c1⟩, c2⟩, c3⟩ := cc
      have hbs : bb < wr.heap.size := World.block_lt_of_cell? wr _ c0
      have HKX := Lib.hid (show x.key.size ≤ maxLen by
        have hkl : k < t.ents.length := by rw [← HN.out]; exact hlt
        refine HKK.out x ?_
        have e : t.ents.getD k default = t.ents[k] := by simp [List.getD, hkl]
        rw [hx, e]; exact List.getElem_mem hkl)
      have HT := Lib.hid (show keysC m (t.ents.take (k + 1)) = if x.off < m then x.key :: keysC m (t.ents.take k) else keysC m (t.ents.take k) by
        rw [take_succ_ent (by rw [← HN.out]; exact hlt), ← hx, keysC_snoc])
      have HS2 := Lib.hid (seen_alloc hS (.cells #[.int .i64 x.off, .int .i64 x.id, .string x.key, .string x.body] 29))
      clear hP hR hM hS hO hB hd hcc hx
      by_cases hxm : x.off < m
      · have hdm : decide (x.off < m) = true := by simpa using hxm
        have HXM := Lib.hid hxm
        obtain ⟨w5, hst, hs5, hg5⟩ := HS2.out.store (tm := 136) Try.underlying9 Try.underlying136 Try.underlying3 (by have := HLE.out; unfold maxLen; omega) HKX.out
        have HS5 := Lib.hid hs5
        have HG5 := Lib.hid hg5
        clear hs5 hg5
        gi_wp2
        go_roundw
        case rel =>
          refine ⟨k + 1, by omega, by go_num, ⟨?_, ?_⟩, ?_, ?_, ?_, ?_⟩
          · exact (HPx.out.alloc _).grown HG5.out (fun e => by injection e with e'; omega)
          · exact (HRx.out.alloc _).grown HG5.out (fun e => by injection e with e'; omega)
          · exact (HMx.out.alloc _).grown HG5.out (fun e => by injection e with e'; omega)
          · rw [HT.out, if_pos HXM.out]
            exact HS5.out
          · exact own_grown (own_alloc HOx.out) HG5.out (fun e => by have := HBL.out _ e; omega)
          · exact (below_alloc HBx.out).grown HG5.out (by simp; omega) (fun j e => by injection e with e'; omega)
        case measure => simp [intOf]; omega
      · have hdm : decide (x.off < m) = false := by simpa using hxm
        have HXM := Lib.hid hxm
        gi_wp2
        go_roundw
        case rel =>
          refine ⟨k + 1, by omega, by go_num, ⟨HPx.out.alloc _, HRx.out.alloc _⟩, HMx.out.alloc _, ?_, own_alloc HOx.out, below_alloc HBx.out⟩
          rw [HT.out, if_neg HXM.out]
          exact HS2.out.mono (by omega)
        case measure => simp [intOf]; omega
    · obtain rfl : k = n := by omega
      have hlt' : ¬ (k : Int) < (k : Int) := by omega
      obtain ⟨⟨hP, hR⟩, hM, hS, hO, hB⟩ := hL.out
      have HPx := Lib.hid hP
      have HRx := Lib.hid hR
      have HMx := Lib.hid hM
      have HSx := Lib.hid hS
      have HOx := Lib.hid hO
      have HBx := Lib.hid hB
      have hws : w.heap.size < wr.heap.size := hP.lt
      have hmb := hM.lt
      obtain ⟨p0, p1, p2, p3, pz⟩ := cells4 hP
      clear hP hR hM hS hO hB
      gi_wp2
      refine ⟨trivial, ?_⟩
      refine CallsIn.mono (callsIn_wide.2 (back_any _ a3 _ cap3 _ rfl)) ?_
      rintro e w6 ⟨rfl, rfl⟩
      gi_wp2
      have hln := HN.out
      subst hln
      have hcap3 := HOx.out.reads.ents.1.2
      have hdd : 0 < t.ents.length → ∃ b off, a3 = some ⟨b, off, none⟩ ∧ b < w3.heap.size ∧ EntsAt ((wr.alloc (.cells #[.slice none 0 0] 68)).alloc (.cells #[.slice a3 t.ents.length cap3] 68)) b off t.ents := fun hp => by
        obtain ⟨b, off, ha, he⟩ := (own_alloc (o := .cells #[.slice a3 t.ents.length cap3] 68) (own_alloc (o := .cells #[.slice none 0 0] 68) HOx.out)).reads.ents.2.2 hp
        have ho : (Value.slice a3 t.ents.length cap3).ownBlock = some b := by
          rcases HOx.out.2 with ⟨e, h0⟩ | ⟨g, cp, cur, e, _⟩
          · omega
          · rw [ha] at e
            cases e
            rw [ha]
            rfl
        exact ⟨b, off, ha, HBL.out _ ho, he⟩
      have HDD := Lib.hid hdd
      have HCAP := Lib.hid hcap3
      have hB6 : w.heap.size ≤ wr.heap.size := by omega
      have HBk := Lib.hid (Blk.new (w := wr.alloc (.cells #[.slice none 0 0] 68)) (g := wr.heap.size + 1) (t := 68) (cs := [.slice a3 t.ents.length cap3]) (by simp))
      have HLb := Lib.hid (Blk.alloc (Blk.new (w := wr) (t := 68) (cs := [.slice none 0 0]) rfl) (.cells #[.slice a3 t.ents.length cap3] 68))
      clear hdd hcap3 p0 p1 p2 p3 pz
      have st := back_places Fence.wide 3 trivial rfl (by omega) (wr.heap.size + 1) w3.heap.size a3 cap3 t.ents HLE.out _ (by simp) (by simp; omega) (HBk.out.cell 0) HCAP.out HDD.out
      refine wpIn_rangeFunc_ownH rfl (by omega) (gf := 112) (lb := #[.pointer (some ⟨wr.heap.size + 1, 0, none⟩)]) rfl trivial (enters_of Try.func112 (by kernel_rfl) rfl)
        st (fun h k => h.trans k) (backK_b (by simp; omega) (by simp)) (Below.refl _ _) (fun _ => rfl)
        (CmpI w w3 t m a3 t.ents.length cap3 wr.heap.size) (fun _ _ _ => False) (cmpI_own (by simp; omega) (by simp; omega)) (fun _ _ _ _ _ h _ _ => h)
        ?init
        (fun x a' W => ∃ (Bx : Nat) (f : Nat → Value), (wr.heap.size + 1 < Bx ∧ Bx < W.heap.size) ∧ Blk W Bx 29 (entCells (t.ents.getD x default)) ∧ a' = { tmps := #[f 0, f 1, .pointer (some ⟨w.heap.size, 0, none⟩), f 3, .pointer (some ⟨w.heap.size + 1, 0, none⟩), f 5, f 6, .pointer (some ⟨w3.heap.size + 1, 0, none⟩), f 8, f 9, .pointer (some ⟨wr.heap.size, 0, none⟩), f 11, .pointer (some ⟨Bx, 0, none⟩), f 13, f 14, f 15, f 16, f 17, f 18, f 19, f 20, f 21, f 22, f 23, f 24, f 25, f 26, f 27, f 28, f 29, f 30, f 31, f 32, f 33, f 34, f 35, f 36, f 37, f 38, f 39, f 40, f 41, f 42, f 43, f 44, f 45, f 46, f 47, f 48, f 49, f 50, f 51, f 52, f 53, f 54, f 55, f 56, f 57, f 58, f 59, f 60, f 61, f 62, f 63, f 64, f 65, f 66, f 67, f 68, f 69, f 70, f 71, f 72, f 73, f 74, f 75, f 76, f 77, f 78, f 79, f 80, f 81, f 82, f 83, f 84, f 85, f 86], defers := [] })
        (fun x a' _ X' Y' row hs hg hr => by
          obtain ⟨Bx, f, ⟨h1, h2⟩, h3, h4⟩ := hs
          exact ⟨Bx, f, ⟨h1, Nat.lt_of_lt_of_le h2 hg.size⟩, blk_row h3 hg (fun r e => (hr r e).2), h4⟩)
        ?assign ?body ?done ?stop
      case init =>
        have g0 := HSx.out
        rw [List.take_length] at g0
        refine ⟨none, 0, ⟨(HPx.out.alloc _).alloc _, (HRx.out.alloc _).alloc _⟩, (HMx.out.alloc _).alloc _, ⟨_, seen_alloc (seen_alloc g0 _) _⟩, ⟨HLb.out, ?_⟩, HBk.out, below_alloc (below_alloc HBx.out)⟩
        exact World.ownsRow_nil _ _ _ _
      case assign =>
        rintro l pre x W K hI hKK
        obtain ⟨al, capl, ⟨hP, hR⟩, hM, ⟨ks, hS⟩, ⟨hL, hO⟩, hBk, hB⟩ := hI
        have hlb := hBk.lt
        gi_wp2
        refine hKK _ _ ((KeepsOthers.alloc _ _).from _) ⟨(Below.refl _ W).alloc (by omega) _, Below.heap_alloc W _ _ hBk.lt⟩ ⟨al, capl, ⟨hP.alloc _, hR.alloc _⟩, hM.alloc _, ⟨ks, seen_alloc hS _⟩, ⟨hL.alloc _, own_alloc hO⟩, hBk.alloc _, hB.alloc hB.size _⟩ ⟨W.heap.size, slots_ax _ ⟨by omega, by simp⟩ (Blk.new rfl) rfl⟩
      case body =>
        rintro l pre x a' W hl ⟨r, hr⟩ ⟨al, capl, hJ⟩ ⟨Bx, f, ⟨hx1, hx2⟩, hE, rfl⟩ hlt
        obtain ⟨K, E, hKE⟩ : ∃ K E, runC m t.ents (pre.map fun i => t.ents.getD i default) = (K, E) := ⟨_, _, rfl⟩
        have hst : runC m t.ents ((pre ++ [x]).map fun i => t.ents.getD i default) = stepC m (K, E) (t.ents.getD x default) := by rw [List.map_append, List.map_singleton, runC_snoc, hKE]
        rw [hKE] at hJ
        simp only at hJ
        have HJ := Lib.hid hJ
        obtain ⟨⟨hP, hR⟩, hM, ⟨ks, hS⟩, ⟨hL, hO⟩, hBk, hB⟩ := hJ
        have hEl : E.length ≤ 999999 := by
          have h0 := runC_len m t.ents (pre.map fun i => t.ents.getD i default)
          rw [hKE, List.length_map] at h0
          have := HLE.out
          simp only at h0
          omega
        have hxk : (t.ents.getD x default).key.size ≤ maxLen := by
          by_cases hx : x < t.ents.length
          · have e : t.ents.getD x default = t.ents[x] := by simp [List.getD, hx]
            rw [e]
            exact HKK.out _ (List.getElem_mem hx)
          · have e : t.ents.getD x default = default := by simp [List.getD, hx]
            rw [e]
            exact Nat.zero_le _
        obtain ⟨y, hy⟩ : ∃ y, y = t.ents.getD x default := ⟨_, rfl⟩
        rw [← hy] at hE hst hxk
        have HST := Lib.hid hst
        have HEL := Lib.hid hEl
        have HXK := Lib.hid hxk
        have HPb := Lib.hid hP
        have HRb := Lib.hid hR
        have HMb := Lib.hid hM
        have HSb := Lib.hid hS
        have HLb2 := Lib.hid hL
        have HOb := Lib.hid hO
        have HBb := Lib.hid hBk
        have HB2 := Lib.hid hB
        have HEb := Lib.hid hE
        obtain ⟨p0, p1, p2, p3, pz⟩ := cells4 hP
        obtain ⟨m0, mz⟩ := cells1 hM
        obtain ⟨l0, lz⟩ := cells1 hL
        obtain ⟨e0, e1, e2, e3, ez⟩ := cells4 hE
        have hs0 : w.heap.size < W.heap.size := hP.lt
        have hs1 := hBk.lt
        have ZI := Lib.hid (@zero_int W)
        clear hP hR hM hS hL hO hBk hB hE hr hst hEl hxk hy hKE
        by_cases hxm : y.off < m
        · have hdm : decide (y.off < m) = true := by simpa using hxm
          by_cases hin : y.key ∈ K
          · have HIN := Lib.hid hin
            have look := HSb.out.look Try.underlying9 Try.underlying136 Try.underlying3 ZI.out HXK.out 1 (Or.inl ⟨hin, rfl⟩)
            obtain ⟨w5, hdel, hs5, hg5⟩ := HSb.out.delete (tm := 136) Try.underlying9 Try.underlying136 HXK.out 0
            have HG5 := Lib.hid hg5
            have nb : ∀ g, g ≠ w3.heap.size → some w3.heap.size ≠ some g := fun g hg e => hg (by injection e with e; exact e.symm)
            have HJ5 := Lib.hid (show CmpJ w w3 t m a3 t.ents.length cap3 wr.heap.size (K.filter fun k => decide (k ≠ y.key)) E al capl w5 from
              ⟨⟨HPb.out.grown hg5 (nb _ (by omega)), HRb.out.grown hg5 (nb _ (by omega))⟩, HMb.out.grown hg5 (nb _ (by omega)), ⟨_, hs5⟩, ⟨HLb2.out.grown hg5 (nb _ (by omega)), own_grown HOb.out hg5 (fun e => by have := (HOb.out.lt _ e).1; omega)⟩, HBb.out.grown hg5 (nb _ (by omega)), HB2.out.grown hg5 HB2.out.size (fun j e => by injection e with e; omega)⟩)
            obtain ⟨l5, lz5⟩ := cells1 (HLb2.out.grown hg5 (nb _ (by omega)))
            obtain ⟨f0, f1, f2, f3, fz⟩ := cells4 (HEb.out.grown hg5 (nb _ (by omega)))
            have hz5 : wr.heap.size + 2 ≤ w5.heap.size := by have := hg5.size; omega
            clear hs5 hg5 hin nb
            gi_wp2_with (gi_at_builtin; go_must (refine wpListIn_append_own _ rfl _ _ 68 rfl (wr.heap.size + 2) 29 i0 _ 4 48 Try.underlying68 hi hz0 hz1 hz2 rfl (by decide) _ _ _ rfl (own_alloc HJ5.out.2.2.2.1.2) ⟨w5.heap.size, 0, none⟩ 1 1 (entCells y) rfl rfl ?_ (by intro v hv; simp [entCells] at hv; rcases hv with rfl | rfl | rfl | rfl <;> rfl) (by have := HEL.out; unfold maxLen; omega) (by have := HEL.out; omega) (by simp; omega) ?_))
            · intro j v hv
              match j, hv with
              | 0, hv => simp [entCells] at hv; subst hv; simp
              | 1, hv => simp [entCells] at hv; subst hv; simp
              | 2, hv => simp [entCells] at hv; subst hv; simp
              | 3, hv => simp [entCells] at hv; subst hv; simp
            · intro v' w6 hown6 hgrow _
              have HO6 := Lib.hid (show OwnE w6 (wr.heap.size + 2) v' (E ++ [y]) by
                show w6.ownsRow _ _ _ _ _ _
                simpa [List.flatMap_append] using hown6)
              obtain ⟨a6, cap6, hv6⟩ := own_shape HO6.out
              subst hv6
              obtain ⟨g0, gz⟩ := cells1 ((HJ5.out.2.2.2.1.1.alloc _).grown hgrow (fun e => by have := (HJ5.out.2.2.2.1.2.lt _ e).1; omega))
              have PU := Lib.hid (cmpJ_push HJ5.out (by omega) (by omega) (q := E.length + 1) (by simp) hgrow HO6.out)
              clear hown6 hgrow
              gi_wp2
              refine ⟨((KeepsFrom.of_grownBy HG5.out (fun j e => by injection e with e; subst e; simp; omega)).trans (PU.out.2.1.from _)), BackK.trans ⟨(Below.refl _ _).grown HG5.out (by omega) (fun j e => by injection e with e; omega), HG5.out.block _ (by omega) (fun e => by injection e with e; omega)⟩ PU.out.2.2, ⟨a6, cap6, ?_⟩⟩
              rw [HST.out, stepC_yes hxm HIN.out]
              exact PU.out.1
          · have HIN := Lib.hid hin
            have look := HSb.out.look Try.underlying9 Try.underlying136 Try.underlying3 ZI.out HXK.out 0 (Or.inr ⟨hin, rfl⟩)
            clear hin
            gi_wp2
            refine ⟨KeepsFrom.refl _ _, ⟨Below.refl _ _, rfl⟩, ⟨al, capl, ?_⟩⟩
            rw [HST.out, stepC_no hxm HIN.out]
            exact HJ.out
        · have hdm : decide (y.off < m) = false := by simpa using hxm
          have HXM := Lib.hid hxm
          have hz5 : wr.heap.size + 2 ≤ W.heap.size := by omega
          gi_wp2_with (gi_at_builtin; go_must (refine wpListIn_append_own _ rfl _ _ 68 rfl (wr.heap.size + 2) 29 i0 _ 4 48 Try.underlying68 hi hz0 hz1 hz2 rfl (by decide) _ _ _ rfl (own_alloc HJ.out.2.2.2.1.2) ⟨W.heap.size, 0, none⟩ 1 1 (entCells y) rfl rfl ?_ (by intro v hv; simp [entCells] at hv; rcases hv with rfl | rfl | rfl | rfl <;> rfl) (by have := HEL.out; unfold maxLen; omega) (by have := HEL.out; omega) (by simp; omega) ?_))
          · intro j v hv
            match j, hv with
            | 0, hv => simp [entCells] at hv; subst hv; simp
            | 1, hv => simp [entCells] at hv; subst hv; simp
            | 2, hv => simp [entCells] at hv; subst hv; simp
            | 3, hv => simp [entCells] at hv; subst hv; simp
          · intro v' w6 hown6 hgrow _
            have HO6 := Lib.hid (show OwnE w6 (wr.heap.size + 2) v' (E ++ [y]) by
              show w6.ownsRow _ _ _ _ _ _
              simpa [List.flatMap_append] using hown6)
            obtain ⟨a6, cap6, hv6⟩ := own_shape HO6.out
            subst hv6
            obtain ⟨g0, gz⟩ := cells1 ((HJ.out.2.2.2.1.1.alloc _).grown hgrow (fun e => by have := (HJ.out.2.2.2.1.2.lt _ e).1; omega))
            have PU := Lib.hid (cmpJ_push HJ.out (by omega) (by omega) (q := E.length + 1) (by simp) hgrow HO6.out)
            clear hown6 hgrow
            gi_wp2
            refine ⟨PU.out.2.1.from _, PU.out.2.2, ⟨a6, cap6, ?_⟩⟩
            rw [HST.out, stepC_out (show ¬ y.off < m by have := HXM.out; omega)]
            exact PU.out.1
      case done =>
        rintro D ys W hD rfl ⟨al, capl, hJ⟩ hKD
        rw [idxD_ents] at hJ
        obtain ⟨E, hE⟩ : ∃ E, E = (runC m t.ents t.ents.reverse).2 := ⟨_, rfl⟩
        obtain ⟨K, hK⟩ : ∃ K, K = (runC m t.ents t.ents.reverse).1 := ⟨_, rfl⟩
        rw [← hE, ← hK] at hJ
        have HJ := Lib.hid hJ
        have HE := Lib.hid hE
        have HD := Lib.hid hKD
        have HEL := Lib.hid (show E.length ≤ 1000000 by
          have h0 := runC_len m t.ents t.ents.reverse
          rw [← hE, List.length_reverse] at h0
          have := HLE.out
          omega)
        obtain ⟨⟨hP, hR⟩, hM, hS, ⟨hL, hO⟩, hBk, hB⟩ := hJ
        obtain ⟨l0, lz⟩ := cells1 hL
        have hs0 : w.heap.size + 1 < W.heap.size := hR.lt
        clear hE hK hKD hP hR hM hS hL hO hBk hB
        gi_wp2
        refine ⟨trivial, ?_⟩
        refine CallsIn.mono (callsIn_wide.2 (rev_any HJ.out.2.2.2.1.2 HEL.out)) ?_
        rintro e w7 ⟨⟨u, rfl⟩, o7, z7, f7, b7⟩
        have ne : ∀ g, g < wr.heap.size + 2 → (Value.slice al E.length capl).ownBlock ≠ some g := fun g hg e => by have := (HJ.out.2.2.2.1.2.lt _ e).1; omega
        have neD : (Value.slice al E.length capl).ownBlock ≠ some D := fun e => by
          have hk := HD.out
          rcases HJ.out.2.2.2.1.2.2 with ⟨e', _⟩ | ⟨g, cp, cur, hv, _, hh, _⟩
          · rw [e'] at e; cases e
          · rw [hv] at e; cases e; rw [hh] at hk; cases hk
        have HP7 := Lib.hid (show Blk w7 w.heap.size 70 _ from (f7 _ (ne _ (by omega))).trans HJ.out.1.1)
        have HR7 := Lib.hid (show Blk w7 (w.heap.size + 1) 70 _ from (f7 _ (ne _ (by omega))).trans HJ.out.1.2)
        have HL7 := Lib.hid (show Blk w7 wr.heap.size 68 _ from (f7 _ (ne _ (by omega))).trans HJ.out.2.2.2.1.1)
        have HD7 := Lib.hid ((f7 _ neD).trans HD.out)
        have HO7 := Lib.hid o7
        have HB7 := Lib.hid (HJ.out.2.2.2.2.2.trans ((b7 (by have := HJ.out.2.2.2.2.1.lt; omega)).mono (B' := w.heap.size) (by omega)))
        obtain ⟨p0, p1, p2, p3, pz⟩ := cells4 HP7.out
        obtain ⟨r0, r1, r2, r3, rz⟩ := cells4 HR7.out
        obtain ⟨k0, kz⟩ := cells1 HL7.out
        have hs7 : w.heap.size + 1 < w7.heap.size := HR7.out.lt
        clear ne neD o7 f7 b7 l0 lz
        gi_wp2
        have key : TopEnd1 ⟨t.base, t.next, markC t to, leftC (markC t to) t.ents⟩ 0 w = TopEnd1 ⟨t.base, t.next, m, E.reverse⟩ 0 w := by rw [leftC, HMK.out, HE.out]
        rw [key]
        refine cmp_end (al := al) (capl := capl) (D := D) (by simp at hD; omega) rfl rfl rfl ?_ ?_ ?_ ?_
        · have g0 := ((((HR7.out.far (b := w.heap.size) (o := 3) (by omega) (.slice al E.length capl)).set_ 0 (.int .i64 t.base)).set_ 1 (.int .i64 t.next)).set_ 2 (.int .i64 m)).set_ 3 (.slice al E.length capl)
          simp only [List.set_cons_zero, List.set_cons_succ] at g0
          rw [List.length_reverse]
          exact g0
        · rw [List.length_reverse]
          have g0 := HO7.out
          exact own_base (own_set (own_set (own_set (own_set (own_set g0 (by omega)) (by omega)) (by omega)) (by omega)) (by omega)) (by omega)
        · repeat (first | (with_reducible exact HB7.out) | (with_reducible exact Below.refl _ _) | (with_reducible apply Below.drew) | (with_reducible apply below_alloc) | ((with_reducible refine Below.alloc ?_ ?_ _); rotate_left; focus (first | (simp; done) | (simp; omega) | omega)) | ((with_reducible refine Below.setCell ?_ ?_ _); rotate_left; focus (first | (simp; done) | (simp; omega) | omega)))
        · exact KeepsOthers.same (((((KeepsOthers.setCell _ _ _).trans (KeepsOthers.setCell _ _ _)).trans (KeepsOthers.setCell _ _ _)).trans (KeepsOthers.setCell _ _ _)).trans (KeepsOthers.setCell _ _ _)) D _ HD7.out rfl
      case stop =>
        rintro D c pre W hD _ hf hKD
        exact hf.elim

theorem compact_any {v : Value} {t u : Top} {w : World} {x : Int} (to : Int) (h : TopR w v t) (hk : ∀ x ∈ t.ents, x.key.size ≤ maxLen) (hu : compactP t to = (u, x)) :
    Calls Try.prog 81 #[v, .int .i64 to] w (TopEnd1 u x w) := by
  by_cases hm : t.may
  · by_cases ht : to < 0 ∨ 1073741824 < to
    · rw [compactP_arg hm ht] at hu
      cases hu
      exact compact_arg to h hk hm ht
    · rw [compactP_yes hm ht] at hu
      cases hu
      exact compact_yes to h hk hm (by omega) (by omega)
  · rw [compactP_bad hm] at hu
    cases hu
    exact compact_bad to h hk hm
end Go.Proofs.Ytblgmjbajnkcdab
