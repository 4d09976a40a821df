/-
  slices.Backward at entries: an iterator that hands out a slice's entries from behind. No condition but that the slice reads.
-/
import Derived.RangeFuncNested
import Derived.RangeFuncBound
import Derived.RangeFuncCalls
import Derived.RangeFuncLeaves
import Derived.RangeFuncBox
import Derived.RangeFuncWrites
import Derived.Shelf.Abstract
import Derived.Shelf.RegionOpen
import Derived.WalkKit
import Derived.OwnWalkIn
import Derived.TacticsInMore
import Derived.LoopNIn
import Derived.LoopIn
import Derived.Test.YtolgkadoplalnaaOwn
namespace Go.Proofs.Ytolgkadoplalnaa
open Go.RowKit Go.Shelf

attribute [local go_sem] Oper.semAt_some

/-- What has come when k rounds are over: the last k entries, the last one first, each with its place. -/
def down (l : List Ent) (k : Nat) : List (Int × Ent) := (List.range k).map fun j => (((l.length - 1 - j : Nat) : Int), l.getD (l.length - 1 - j) default)
theorem down_succ (l : List Ent) (k : Nat) : down l (k + 1) = down l k ++ [(((l.length - 1 - k : Nat) : Int), l.getD (l.length - 1 - k) default)] := by simp [down, List.range_succ]
theorem down_length (l : List Ent) (k : Nat) : (down l k).length = k := by simp [down]
abbrev encE (x : Int × Ent) : Array Value := #[.int .i64 x.1, .agg #[.int .i64 x.2.off, .int .i64 x.2.id, .string x.2.key, .string x.2.body]]

/-- What a round must keep: what lies below n₀, and the box of the slice. -/
def BackK (n₀ Bs : Nat) (W W' : World) : Prop := Below n₀ W W' ∧ W'.heap[Bs]? = W.heap[Bs]?
theorem BackK.trans {n₀ Bs : Nat} {X Y Z : World} (h : BackK n₀ Bs X Y) (k : BackK n₀ Bs Y Z) : BackK n₀ Bs X Z := ⟨h.1.trans k.1, k.2.trans h.2⟩
theorem backK_b {n₀ Bs : Nat} {w : World} (hn : n₀ ≤ w.heap.size) (hB : Bs < w.heap.size) (W : World) (l : Nat) (o o' : Obj) (hl : w.heap.size ≤ l) (h : W.heap[l]? = some o) (h1 : o.isCells = false) (h2 : o.isWalk = false) : BackK n₀ Bs W (W.putObj l o') :=
  ⟨belowK_b hn W l o o' hl h h1 h2, (grownBy_putObj' W l o').block Bs (by have := (Array.getElem?_eq_some_iff.1 h).1; omega) (fun e => by cases e; omega)⟩
theorem blk_own {β : Type} {B g : Nat} {t : TypeId} {cs : β → List Value} : OwnFrom B (fun (s : β) W => Blk W g t (cs s)) := fun s W W' row hs hg hr => hs.grown hg (fun e => by
  obtain ⟨_, o, ho, hc⟩ := hr g e
  unfold Blk at hs
  rw [hs] at ho
  cases ho
  cases hc)
theorem blk_row {W W' : World} {g : Nat} {t : TypeId} {cs : List Value} {row : Option Nat} (h : Blk W g t cs) (hg : W.grownBy W' row) (hr : ∀ r, row = some r → ∃ o : Obj, W.heap[r]? = some o ∧ o.isCells = false) : Blk W' g t cs := h.grown hg (fun e => by
  obtain ⟨o, ho, hc⟩ := hr g e
  unfold Blk at h
  rw [h] at ho
  cases ho
  cases hc)

set_option maxRecDepth 100000 in
set_option maxHeartbeats 2000000 in
theorem back1_in (F : Fence) (n : Nat) (h7 : F.fn 57) (hro : F.round = none) (hn : 1 ≤ n) (l Bs n₀ : Nat) (a : Option Addr) (len cap : Nat) (es : List Ent) (hlen : len = es.length) (hle : len ≤ 1000000)
    (J Jx : List (Int × Ent) → World → Prop)
    (hY : ∀ k x W, J (down es k) W → k < len → x = (((es.length - 1 - k : Nat) : Int), es.getD (es.length - 1 - k) default) → YieldAt F (n - 1) Try.prog l (encE x) W fun e W' =>
      (e = .returned (.bool true) ∧ J (down es k ++ [x]) W' ∧ BackK n₀ Bs W W') ∨ (e = .returned (.bool false) ∧ Jx (down es k ++ [x]) W'))
    (W : World) (hBs : W.cell? ⟨Bs, 0, none⟩ = some (.slice a len cap)) (hcap : len ≤ cap) (hd : 0 < len → ∃ b off, a = some ⟨b, off, none⟩ ∧ b < n₀ ∧ EntsAt W b off es) (h0 : J [] W) :
    CallsIn F n Try.prog 57 #[.func (.yield l) #[] #[], .pointer (some ⟨Bs, 0, none⟩)] W fun e W' => (∃ v, e = .returned v) ∧
      ((∃ ys, ys = down es len ∧ J ys W') ∨ (∃ pre, (∃ k, k ≤ len ∧ pre = down es k) ∧ Jx pre W')) := by
  have HD := Lib.hid hd
  have HY := Lib.hid hY
  have HLEN := Lib.hid hlen
  clear hd hY hlen
  have hle' : (len : Int) ≤ 1000000 := by omega
  refine callsIn_of_wp Try.func57 rfl h7 ?_ hro
  simp only [Try.ntmps57, List.size_toArray, List.length_cons, List.length_nil, Nat.reduceAdd, Nat.reduceSub, Array.replicate_succ, Array.replicate_zero, List.push_toArray, List.append_toArray, List.nil_append, List.cons_append]
  gi_wp2
  gi_loopw [3] (fun i wr => ∃ (k r : Nat) (z : Int), r + k = len ∧ i = .int .i64 z ∧ Hid (z = (r : Int) - 1) ∧ Hid (J (down es k) wr) ∧ Hid (BackK n₀ Bs W wr))
    (fun i _ => (intOf i + 1).toNat)
  case atStart => exact ⟨0, len, _, by omega, rfl, rfl, h0, Below.refl _ _, rfl⟩
  case round =>
    obtain ⟨k, r, z, hkr, rfl, hz, hJs, hnx⟩ := hrel
    have hbox := (World.cell?_of_block (a := ⟨Bs, 0, none⟩) hnx.out.2).trans hBs
    cases r with
    | zero =>
      have hz' := hz.out
      have hneg : z < 0 := by omega
      obtain rfl : k = len := by omega
      clear hz'
      gi_wp2
      go_end0
      exact ⟨⟨_, rfl⟩, .inl ⟨_, rfl, hJs.out⟩⟩
    | succ m =>
      have hz' := hz.out
      obtain rfl : z = (m : Int) := by omega
      have m0 : (0 : Int) ≤ (m : Int) := by omega
      have m1 : (m : Int) < (len : Int) := by omega
      obtain ⟨b, off, ha, hb, hcc⟩ := HD.out (by omega)
      subst ha
      have cc := hcc m (by rw [← HLEN.out]; omega)
      have hpl : es.length - 1 - k = m := by have := HLEN.out; omega
      obtain ⟨x, hx⟩ : ∃ x, x = es.getD m default := ⟨_, rfl⟩
      rw [← hx] at cc
      have hsucc : down es (k + 1) = down es k ++ [((m : Int), x)] := by rw [down_succ, hpl, ← hx]
      have HS := Lib.hid hsucc
      have c0 := (hnx.out.1.cell (p := ⟨b, off + m * 4, none⟩) hb).trans cc.1.1.1
      have c1 := (hnx.out.1.cell (p := ⟨b, off + m * 4 + 1, none⟩) hb).trans cc.1.1.2
      have c2 := (hnx.out.1.cell (p := ⟨b, off + m * 4 + 2, none⟩) hb).trans cc.1.2
      have c3 := (hnx.out.1.cell (p := ⟨b, off + m * 4 + 3, none⟩) hb).trans cc.2
      obtain ⟨fn, tmps, assign, body, hy, hR⟩ := HY.out k ((m : Int), x) wr hJs.out (by omega) (by rw [hpl, ← hx])
      simp only [encE] at hy
      have HR := Lib.hid hR
      clear cc hx hsucc hpl hcc hz' hz hR
      gi_wp2
      refine HR.out.mono ?_
      rintro e W3 (⟨rfl, hJ3, hk3⟩ | ⟨rfl, hJx3⟩)
      · gi_wp2
        go_roundw
        case rel => exact ⟨k + 1, m, _, by omega, rfl, rfl, by show J _ _; rw [HS.out]; exact hJ3, hnx.out.trans hk3⟩
        case measure => simp [intOf]
      · gi_wp2
        refine bodyPost_ret (results_none rfl _ _ _) rfl ?_
        exact ⟨⟨_, rfl⟩, .inr ⟨_, ⟨k + 1, by omega, rfl⟩, by rw [HS.out]; exact hJx3⟩⟩

set_option maxHeartbeats 1000000 in
theorem back_any (v : Value) (a : Option Addr) (len cap : Nat) (w : World) (hv : v = .slice a len cap) :
    Calls Try.prog 48 #[v] w fun e w' => e = .returned (.func (.func 57) #[] #[.pointer (some ⟨w.heap.size, 0, none⟩)]) ∧ w' = w.alloc (.cells #[v] 22) := by
  subst hv
  go_enter Try.func48, Try.ntmps48
  go_wp2_with fail
  go_ret
  exact ⟨rfl, rfl⟩

theorem back_stops (F : Fence) (n : Nat) (h7 : F.fn 57) (hro : F.round = none) (hn : 1 ≤ n) (Bs n₀ : Nat) (a : Option Addr) (cap : Nat) (es : List Ent) (hle : es.length ≤ 1000000) (w : World) (hBs : Bs < w.heap.size) (hn₀ : n₀ ≤ w.heap.size)
    (hc : w.cell? ⟨Bs, 0, none⟩ = some (.slice a es.length cap)) (hcap : es.length ≤ cap) (hd : 0 < es.length → ∃ b off, a = some ⟨b, off, none⟩ ∧ b < n₀ ∧ EntsAt w b off es) :
    SeqStopsK F n Try.prog 57 #[.pointer (some ⟨Bs, 0, none⟩)] encE (BackK n₀ Bs) (fun ys => ys = down es es.length) (fun pre => ∃ k, k ≤ es.length ∧ pre = down es k) es.length w := fun l J Jx W hW _ _ hY h0 => by
  refine back1_in F n h7 hro hn l Bs n₀ a es.length cap es rfl hle J Jx (fun k x W h1 h2 _ => hY _ x W h1 (by rw [down_length]; exact h2)) W ((hW.cell (p := ⟨Bs, 0, none⟩) hBs).trans hc) hcap (fun hp => ?_) h0
  obtain ⟨b, off, ha, hb, he⟩ := hd hp
  refine ⟨b, off, ha, hb, fun i hi => ?_⟩
  have hb' : b < w.heap.size := by omega
  obtain ⟨⟨⟨e0, e1⟩, e2⟩, e3⟩ := he i hi
  exact ⟨⟨⟨(hW.cell (p := ⟨b, _, none⟩) hb').trans e0, (hW.cell (p := ⟨b, _, none⟩) hb').trans e1⟩, (hW.cell (p := ⟨b, _, none⟩) hb').trans e2⟩, (hW.cell (p := ⟨b, _, none⟩) hb').trans e3⟩

/-- The places that have come when k rounds are over. -/
def idxD (n k : Nat) : List Nat := (List.range k).map fun j => n - 1 - j
theorem down_idx (l : List Ent) (k : Nat) : (down l k).map (fun x => x.1.toNat) = idxD l.length k := by simp [down, idxD]
theorem idxD_ents (l : List Ent) : (idxD l.length l.length).map (fun i => l.getD i default) = l.reverse := by
  apply List.ext_getElem
  · simp [idxD]
  · intro i h1 h2
    have : i < l.length := by simpa using h2
    have h3 : l.length - 1 - i < l.length := by omega
    simp [idxD, List.getD, h3]
/-- The same contract by places: what comes is a place's entry. -/
theorem back_places (F : Fence) (n : Nat) (h7 : F.fn 57) (hro : F.round = none) (hn : 1 ≤ n) (Bs n₀ : Nat) (a : Option Addr) (cap : Nat) (es : List Ent) (hle : es.length ≤ 1000000) (w : World) (hBs : Bs < w.heap.size) (hn₀ : n₀ ≤ w.heap.size)
    (hc : w.cell? ⟨Bs, 0, none⟩ = some (.slice a es.length cap)) (hcap : es.length ≤ cap) (hd : 0 < es.length → ∃ b off, a = some ⟨b, off, none⟩ ∧ b < n₀ ∧ EntsAt w b off es) :
    SeqStopsK F n Try.prog 57 #[.pointer (some ⟨Bs, 0, none⟩)] (fun i : Nat => encE ((i : Int), es.getD i default)) (BackK n₀ Bs) (fun ys => ys = idxD es.length es.length) (fun pre => ∃ k, k ≤ es.length ∧ pre = idxD es.length k) es.length w := fun l J Jx W hW _ _ hY h0 => by
  refine CallsIn.mono (back1_in F n h7 hro hn l Bs n₀ a es.length cap es rfl hle (fun d W => J (d.map fun x => x.1.toNat) W) (fun d W => Jx (d.map fun x => x.1.toNat) W) (fun k x W h1 h2 hx => ?_) W ((hW.cell (p := ⟨Bs, 0, none⟩) hBs).trans hc) hcap (fun hp => ?_) h0) ?_
  · subst hx
    have := hY ((down es k).map fun x => x.1.toNat) (es.length - 1 - k) W h1 (by rw [List.length_map, down_length]; exact h2)
    simpa using this
  · obtain ⟨b, off, ha, hb, he⟩ := hd hp
    refine ⟨b, off, ha, hb, fun i hi => ?_⟩
    have hb' : b < w.heap.size := by omega
    obtain ⟨⟨⟨e0, e1⟩, e2⟩, e3⟩ := he i hi
    exact ⟨⟨⟨(hW.cell (p := ⟨b, _, none⟩) hb').trans e0, (hW.cell (p := ⟨b, _, none⟩) hb').trans e1⟩, (hW.cell (p := ⟨b, _, none⟩) hb').trans e2⟩, (hW.cell (p := ⟨b, _, none⟩) hb').trans e3⟩
  · rintro e W' ⟨hv, h | h⟩
    · obtain ⟨ys, rfl, hJ⟩ := h
      exact ⟨hv, .inl ⟨_, rfl, by rw [← down_idx]; exact hJ⟩⟩
    · obtain ⟨pre, ⟨k, hk, rfl⟩, hJ⟩ := h
      exact ⟨hv, .inr ⟨_, ⟨k, hk, rfl⟩, by rw [← down_idx]; exact hJ⟩⟩
end Go.Proofs.Ytolgkadoplalnaa
