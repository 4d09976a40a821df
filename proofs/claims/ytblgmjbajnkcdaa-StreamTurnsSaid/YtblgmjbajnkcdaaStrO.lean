/-
  Topics and commits that a call itself made. No program in sight but its types.
-/
import Derived.Test.YtblgmjbajnkcdaaStrR
import Derived.Test.YtblgmjbajnkcdaaBunE
import Derived.Test.YtblgmjbajnkcdaaBunJ
namespace Go.Proofs.Ytblgmjbajnkcdaa
open Go.RowKit Go.Deep

/-- The slice v is the call's own, and so are its topics' entries; they read as l. -/
def OwnT (w : World) (B : Nat) (v : Value) (l : List Top) : Prop :=
  ∃ pl : List (Value × Top), pl.map (·.2) = l ∧ w.ownsRow B 72 4 v l.length (pl.flatMap topCells) ∧ ∀ p ∈ pl, OwnE w B p.1 p.2.ents
def OwnS (w : World) (B : Nat) (v : Value) (s : Str) : Prop := ∃ ta tc, v = .agg #[ta, tc] ∧ OwnT w B ta s.tops ∧ OwnC w B tc s.coms

theorem own_ent {w : World} {B : Nat} {u : Value} {t : Top} (h : OwnE w B u t.ents) : EntR w u t := by
  obtain ⟨a, cap, rfl⟩ := own_shape h
  exact ⟨a, cap, rfl, h.reads⟩
theorem OwnT.reads {w : World} {B : Nat} {v : Value} {l : List Top} (h : OwnT w B v l) : TopsR w v l := by
  obtain ⟨pl, rfl, h2, h3⟩ := h
  rw [List.length_map] at h2
  exact ⟨pl, rfl, sliceR_of_owns topCells_len h2, fun p hp => own_ent (h3 p hp)⟩
theorem OwnS.reads {w : World} {B : Nat} {v : Value} {s : Str} (h : OwnS w B v s) : StrR w v s := by
  obtain ⟨ta, tc, rfl, h2, h3⟩ := h
  exact ⟨ta, tc, rfl, h2.reads, h3.reads⟩
theorem OwnT.keep {w w' : World} {B : Nat} {v : Value} {l : List Top} (h : OwnT w B v l) (hb : Below w.heap.size w w') : OwnT w' B v l := by
  obtain ⟨pl, h1, h2, h3⟩ := h
  exact ⟨pl, h1, ownsRow_keep h2 hb, fun p hp => own_below (h3 p hp) hb⟩
theorem OwnT.le {w : World} {B B' : Nat} {v : Value} {l : List Top} (h : OwnT w B v l) (hB : B' ≤ B) : OwnT w B' v l := by
  obtain ⟨pl, h1, h2, h3⟩ := h
  exact ⟨pl, h1, ownsRow_le h2 hB, fun p hp => own_base (h3 p hp) hB⟩
theorem OwnS.keep {w w' : World} {B : Nat} {v : Value} {s : Str} (h : OwnS w B v s) (hb : Below w.heap.size w w') : OwnS w' B v s := by
  obtain ⟨ta, tc, h1, h2, h3⟩ := h
  exact ⟨ta, tc, h1, h2.keep hb, h3.keep hb⟩
theorem OwnS.le {w : World} {B B' : Nat} {v : Value} {s : Str} (h : OwnS w B v s) (hB : B' ≤ B) : OwnS w B' v s := by
  obtain ⟨ta, tc, h1, h2, h3⟩ := h
  exact ⟨ta, tc, h1, h2.le hB, h3.le hB⟩
theorem OwnT.nil (w : World) (B : Nat) : OwnT w B (.slice none 0 0) [] := ⟨[], rfl, World.ownsRow_nil _ _ _ _, fun _ h => by cases h⟩
theorem OwnT.shape {w : World} {B : Nat} {v : Value} {l : List Top} (h : OwnT w B v l) : ∃ a cap, v = .slice a l.length cap := by
  obtain ⟨a, cap, hv, _⟩ := h.reads.shape
  exact ⟨a, cap, hv⟩
theorem OwnT.drew {w : World} {B : Nat} {v : Value} {l : List Top} (h : OwnT w B v l) : OwnT w.drew B v l := h
theorem OwnT.alloc {w : World} {B : Nat} {v : Value} {l : List Top} (h : OwnT w B v l) (o : Obj) : OwnT (w.alloc o) B v l := h.keep ((Below.refl _ _).alloc (Nat.le_refl _) _)
theorem rows_ne {w : World} {b1 b2 : Nat} {e1 e2 : TypeId} {s1 s2 n1 n2 k : Nat} {v1 v2 : Value} {xs1 xs2 : List Value} (h1 : w.ownsRow b1 e1 s1 v1 n1 xs1) (h2 : w.ownsRow b2 e2 s2 v2 n2 xs2) (he : e1 ≠ e2) (hk : v2.ownBlock = some k) : v1.ownBlock ≠ some k := by
  rcases rows_apart h1 h2 he with h | h
  · rw [h]; simp
  · rw [hk] at h; exact h
theorem ownsRow_grown {w w' : World} {B k s n : Nat} {e : TypeId} {v : Value} {xs : List Value} {row : Option Nat} (h : w.ownsRow B e s v n xs) (hg : w.grownBy w' row) (hk : row = some k → v.ownBlock ≠ some k) (hs : row = none ∨ row = some k) : w'.ownsRow B e s v n xs :=
  ⟨h.1, h.2.elim Or.inl (fun ⟨g, cp, cur, hv, hB, hh, q⟩ => Or.inr ⟨g, cp, cur, hv, hB, (hg.block g (Array.getElem?_eq_some_iff.1 hh).1 (fun e => by
    rcases hs with h0 | h0
    · rw [h0] at e; cases e
    · exact hk h0 (by rw [hv, ← h0, ← e]; rfl))).trans hh, q⟩)⟩
theorem ownsRow_grown' {w w' : World} {B s n : Nat} {e : TypeId} {v : Value} {xs : List Value} {row : Option Nat} (h : w.ownsRow B e s v n xs) (hg : w.grownBy w' row) (hk : ∀ k, row = some k → v.ownBlock ≠ some k) : w'.ownsRow B e s v n xs := by
  cases row with
  | none => exact ownsRow_grown (k := 0) h hg (fun e => by cases e) (Or.inl rfl)
  | some k => exact ownsRow_grown h hg (fun _ => hk k rfl) (Or.inr rfl)

/-- One topic more. -/
theorem OwnT.snoc {w w' : World} {B : Nat} {v v' u : Value} {l : List Top} {t : Top} (h : OwnT w B v l) (hu : OwnE w B u t.ents) (hg : w.grownBy w' v.ownBlock)
    (hv : ∀ xs, w.ownsRow B 72 4 v l.length xs → w'.ownsRow B 72 4 v' (l.length + 1) (xs ++ topCells (u, t))) : OwnT w' B v' (l ++ [t]) := by
  obtain ⟨pl, h1, h2, h3⟩ := h
  refine ⟨pl ++ [(u, t)], by simp [h1], ?_, fun p hp => ?_⟩
  · have := hv _ h2
    simpa [List.flatMap_append] using this
  · have hne : ∀ q : Value × Top, OwnE w B q.1 q.2.ents → OwnE w' B q.1 q.2.ents := fun q hq => ownsRow_grown' hq hg (fun k hk => rows_ne hq h2 (by decide) hk)
    rcases List.mem_append.1 hp with hp | hp
    · exact hne p (h3 p hp)
    · rw [List.mem_singleton.1 hp]
      exact hne (u, t) hu

theorem flat4_set (pl : List (Value × Top)) (i : Nat) (p : Value × Top) (hi : i < pl.length) :
    ((((pl.flatMap topCells).set (i * 4) (.int .i64 p.2.base)).set (i * 4 + 1) (.int .i64 p.2.next)).set (i * 4 + 2) (.int .i64 p.2.mark)).set (i * 4 + 3) p.1 = (pl.set i p).flatMap topCells := by
  induction pl generalizing i with
  | nil => simp at hi
  | cons y l ih =>
    cases i with
    | zero => simp [topCells]
    | succ i =>
      have := ih i (by simpa using hi)
      simp only [List.flatMap_cons, List.set_cons_succ, ← this]
      have e : ∀ (m : Nat) (v : Value) (r : List Value), (topCells y ++ r).set (4 + m) v = topCells y ++ r.set m v := fun m v r => by
        rw [List.set_append_right (h := by simp [topCells])]
        simp [topCells]
      have a0 : (i + 1) * 4 = 4 + i * 4 := by omega
      rw [a0, e, Nat.add_assoc, e, Nat.add_assoc, e, Nat.add_assoc, e]

/-- A topic at place i of an own row. -/
def putT (W : World) (g i : Nat) (u : Value) (t : Top) : World := (((W.setCell ⟨g, i * 4, none⟩ (.int .i64 t.base)).setCell ⟨g, i * 4 + 1, none⟩ (.int .i64 t.next)).setCell ⟨g, i * 4 + 2, none⟩ (.int .i64 t.mark)).setCell ⟨g, i * 4 + 3, none⟩ u
theorem heap_putT {W : World} {g i b : Nat} {u : Value} {t : Top} (h : b ≠ g) : (putT W g i u t).heap[b]? = W.heap[b]? := by
  unfold putT
  rw [heap_setCell_other _ _ _ _ h, heap_setCell_other _ _ _ _ h, heap_setCell_other _ _ _ _ h, heap_setCell_other _ _ _ _ h]
theorem below_putT {W W0 : World} {B g i : Nat} {u : Value} {t : Top} (h : Below B W0 W) (hB : B ≤ g) : Below B W0 (putT W g i u t) :=
  (((h.setCell (p := ⟨g, _, none⟩) hB _).setCell (p := ⟨g, _, none⟩) hB _).setCell (p := ⟨g, _, none⟩) hB _).setCell (p := ⟨g, _, none⟩) hB _
theorem row_far {w w' : World} {B s n g : Nat} {e : TypeId} {v : Value} {xs : List Value} (h : w.ownsRow B e s v n xs) (hh : ∀ b, b ≠ g → w'.heap[b]? = w.heap[b]?) (hv : v.ownBlock ≠ some g) : w'.ownsRow B e s v n xs :=
  ⟨h.1, h.2.elim Or.inl (fun ⟨g', cp, cur, hv', hB, hg, q⟩ => Or.inr ⟨g', cp, cur, hv', hB, (hh g' (fun e => hv (by rw [hv', e]; rfl))).trans hg, q⟩)⟩
theorem OwnT.put {W : World} {B g n cap i : Nat} {u : Value} {l : List Top} {t : Top} (h : OwnT W B (.slice (some ⟨g, 0, none⟩) n cap) l) (hi : i < l.length) (hu : OwnE W B u t.ents) :
    OwnT (putT W g i u t) B (.slice (some ⟨g, 0, none⟩) n cap) (l.set i t) := by
  obtain ⟨pl, rfl, h2, h3⟩ := h
  rw [List.length_map] at h2 hi
  obtain rfl : n = pl.length := by
    rcases h2.2 with ⟨e, _⟩ | ⟨_, _, _, e, _⟩
    · cases e
    · cases e; rfl
  have s1 := (h2.stored (i * 4) (.int .i64 t.base)).1
  have s2 := (s1.stored (i * 4 + 1) (.int .i64 t.next)).1
  have s3 := (s2.stored (i * 4 + 2) (.int .i64 t.mark)).1
  have s4 := (s3.stored (i * 4 + 3) u).1
  rw [flat4_set pl i (u, t) hi] at s4
  have hne : ∀ q : Value × Top, OwnE W B q.1 q.2.ents → OwnE (putT W g i u t) B q.1 q.2.ents := fun q hq => row_far hq (fun b hb => heap_putT hb) (rows_ne hq h2 (by decide) rfl)
  refine ⟨pl.set i (u, t), by simp, ?_, fun p hp => ?_⟩
  · rw [List.length_set, List.length_map]
    exact s4
  · rcases List.mem_or_eq_of_mem_set hp with hp | hp
    · exact hne p (h3 p hp)
    · subst hp
      exact hne (u, t) hu
/-- The cells of place i. -/
theorem OwnT.at_ {W : World} {B i n cap : Nat} {a : Option Addr} {l : List Top} (h : OwnT W B (.slice a n cap) l) (hi : i < l.length) : ∃ g, a = some ⟨g, 0, none⟩ ∧ (B ≤ g ∧ g < W.heap.size) ∧ (n = l.length ∧ n ≤ cap ∧ cap ≤ maxLen) ∧ TopAt W g (i * 4) (l.getD i default) ∧ ∀ o, W.frozen? ⟨g, o, none⟩ = false := by
  obtain ⟨a', cap', hv, hc, hm, _, hd⟩ := h.reads.shape
  cases hv
  obtain ⟨b, off, rfl, hd2⟩ := hd (by omega)
  have hat := hd2 i hi
  clear hd hd2
  obtain ⟨pl, rfl, h2, h3⟩ := h
  rcases id h2.2 with ⟨e, h0⟩ | ⟨g, cp, cur, e, hB, hh, _⟩
  · rw [List.length_map] at hi h0; omega
  · cases e
    rw [Nat.zero_add] at hat
    rw [List.length_map] at h2
    exact ⟨b, rfl, ⟨hB, (Array.getElem?_eq_some_iff.1 hh).1⟩, ⟨rfl, hc, hm⟩, hat, fun o => by rw [List.length_map] at *; exact h2.frozenAt o⟩
/-- Stores into a block that is none of these topics'. -/
theorem OwnT.far {W : World} {B b o : Nat} {v u : Value} {l : List Top} (h : OwnT W B v l) (hb : b < B) : OwnT (W.setCell ⟨b, o, none⟩ u) B v l := by
  obtain ⟨pl, h1, h2, h3⟩ := h
  exact ⟨pl, h1, ownsRow_setCell_other h2 (fun e => by have := (h2.lt _ e).1; simp at this; omega) u, fun p hp => own_set (h3 p hp) hb⟩
theorem OwnC.far {W : World} {B b o : Nat} {v u : Value} {m : List (List Int)} (h : OwnC W B v m) (hb : b < B) : OwnC (W.setCell ⟨b, o, none⟩ u) B v m := by
  obtain ⟨us, h1, h2, h3, h4⟩ := h
  exact ⟨us, ownsRow_setCell_other h1 (fun e => by have := (h1.lt _ e).1; simp at this; omega) u, h2, fun i hi => ownsRow_setCell_other (h3 i hi) (fun e => by have := ((h3 i hi).lt _ e).1; simp at this; omega) u, h4⟩
/-- Stores into a box of another type. -/
theorem row_blk {w : World} {B s n g : Nat} {e t : TypeId} {v : Value} {xs cs : List Value} (h : w.ownsRow B e s v n xs) (hb : Blk w g t cs) (he : e ≠ t) : v.ownBlock ≠ some g := by
  rcases h.2 with ⟨rfl, _⟩ | ⟨g1, c1, cur1, rfl, _, hh1, _⟩
  · simp [Value.ownBlock]
  · intro hg
    have : g1 = g := by simpa [Value.ownBlock] using hg
    subst this
    rw [hb] at hh1
    simp at hh1
    exact he hh1.2.symm
theorem OwnC.blk {W : World} {B b o : Nat} {t : TypeId} {cs : List Value} {v u : Value} {m : List (List Int)} (h : OwnC W B v m) (hb : Blk W b t cs) (h1t : 48 ≠ t) (h2t : 3 ≠ t) : OwnC (W.setCell ⟨b, o, none⟩ u) B v m := by
  obtain ⟨us, h1, h2, h3, h4⟩ := h
  exact ⟨us, ownsRow_setCell_other h1 (row_blk h1 hb h1t) u, h2, fun i hi => ownsRow_setCell_other (h3 i hi) (row_blk (h3 i hi) hb h2t) u, h4⟩
theorem OwnT.blk {W : World} {B b o : Nat} {t : TypeId} {cs : List Value} {v u : Value} {l : List Top} (h : OwnT W B v l) (hb : Blk W b t cs) (h1t : 72 ≠ t) (h2t : 29 ≠ t) : OwnT (W.setCell ⟨b, o, none⟩ u) B v l := by
  obtain ⟨pl, h1, h2, h3⟩ := h
  exact ⟨pl, h1, ownsRow_setCell_other h2 (row_blk h2 hb h1t) u, fun p hp => ownsRow_setCell_other (h3 p hp) (row_blk (h3 p hp) hb h2t) u⟩
theorem OwnC.alloc {W : World} {B : Nat} {v : Value} {m : List (List Int)} (h : OwnC W B v m) (o : Obj) : OwnC (W.alloc o) B v m := h.keep ((Below.refl _ _).alloc (Nat.le_refl _) _)
/-- Rows of numbers over what turns only blocks that are none of them. -/
theorem OwnC.over {w w' : World} {B g : Nat} {v : Value} {m : List (List Int)} (h : OwnC w B v m) (hh : ∀ b, b ≠ g → w'.heap[b]? = w.heap[b]?) {b2 s2 n2 : Nat} {v2 : Value} {e2 : TypeId} {xs2 : List Value} (h2 : w.ownsRow b2 e2 s2 v2 n2 xs2) (hg : v2.ownBlock = some g) (h1e : 48 ≠ e2) (h2e : 3 ≠ e2) : OwnC w' B v m := by
  obtain ⟨us, k1, k2, k3, k4⟩ := h
  exact ⟨us, row_far k1 hh (rows_ne k1 h2 h1e hg), k2, fun i hi => row_far (k3 i hi) hh (rows_ne (k3 i hi) h2 h2e hg), k4⟩
theorem OwnC.grown {w w' : World} {B : Nat} {v : Value} {m : List (List Int)} {row : Option Nat} (h : OwnC w B v m) (hg : w.grownBy w' row) {b2 s2 n2 : Nat} {v2 : Value} {e2 : TypeId} {xs2 : List Value} (h2 : w.ownsRow b2 e2 s2 v2 n2 xs2) (hr : row = v2.ownBlock) (h1e : 48 ≠ e2) (h2e : 3 ≠ e2) : OwnC w' B v m := by
  subst hr
  obtain ⟨us, k1, k2, k3, k4⟩ := h
  exact ⟨us, ownsRow_grown' k1 hg (fun k hk => rows_ne k1 h2 h1e hk), k2, fun i hi => ownsRow_grown' (k3 i hi) hg (fun k hk => rows_ne (k3 i hi) h2 h2e hk), k4⟩
/-- The cells of a topic that was just laid down. -/
theorem news_top (u : Value) (x : Top) {W : World} {g : Nat} {t : TypeId} (hg : g = W.heap.size) : ∀ j y, (topCells (u, x))[j]? = some y → (W.alloc (.cells #[.int .i64 x.base, .int .i64 x.next, .int .i64 x.mark, u] t)).cell? ((⟨g, 0, none⟩ : Addr).add j) = some y := by
  intro j y hy
  have hB := Blk.new (w := W) (t := t) (cs := topCells (u, x)) hg
  have h := hB.cell j
  rw [show ((⟨g, 0, none⟩ : Addr).add j) = ⟨g, j, none⟩ by unfold Addr.add; split <;> simp_all]
  rw [← hy]
  exact h
theorem topCells_one (a : Option Addr) (n c : Nat) (x : Top) : ∀ v ∈ topCells (.slice a n c, x), v.oneCell' = true := by
  intro v hv
  simp [topCells] at hv
  rcases hv with rfl | rfl | rfl | rfl <;> rfl
theorem info_top : (Try.prog.info? 72).map (fun i => (i.zero, i.size, i.bytes)) = some (some (.agg #[.int .i64 0, .int .i64 0, .int .i64 0, .slice none 0 0]), 4, 48) := by kernel_rfl
end Go.Proofs.Ytblgmjbajnkcdaa
