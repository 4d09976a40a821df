/-
  Texts that belong together; the remark at the head of each says what it proves.
-/
import Derived.WalkKit
import Derived.Lib.Hide
import Derived.Deep.QuietTactic
import Derived.BigQuiet
import Derived.ProofKit
import Derived.Deep.Slices
import Derived.Laws.AppendOwnNone
import Derived.SizedLaws
import Derived.Laws.CopyOwn
import Derived.Maps.OwnOps
import Derived.Maps.Views
import Derived.Maps.Keyed
import Derived.StringKeys
import Derived.WideMake
import Derived.Maps.OwnSet
import Derived.Laws.Rows
set_option maxRecDepth 100000
/-
  Small helpers: no program in sight.
-/
namespace Go.Proofs.Ytblgmjbajnkcdab
open Go.RowKit

theorem callsFlip {P : Program} {f : FuncId} {args : Array Value} {w : World} {r : Ending} (h : Calls P f args w fun e w' => e = r ∧ w = w') : Calls P f args w fun e w' => e = r ∧ w' = w :=
  h.mono fun _ _ ⟨a, b⟩ => ⟨a, b.symm⟩

theorem bcell {W w1 : World} {B : Nat} (hb : Below B W w1) : (∀ b o, b < B → w1.cell? ⟨b, o, none⟩ = W.cell? ⟨b, o, none⟩) ∧ (∀ b o, b < B → w1.frozen? ⟨b, o, none⟩ = W.frozen? ⟨b, o, none⟩) :=
  ⟨fun b o h => hb.cell (p := ⟨b, o, none⟩) h, fun b o h => hb.frozen (p := ⟨b, o, none⟩) h⟩

/-- A cell that was there when a call began, behind it. -/
theorem keep {W w1 : World} {a : Addr} {v : Value} (hb : Below W.heap.size W w1) (h : W.cell? a = some v) : w1.cell? a = some v := by
  have := World.block_lt_of_cell? W _ h
  rw [hb.cell this]; exact h

/-- One operation of a region that draws its order, in a class of worlds: the value that it yields in every world of the class. -/
theorem quiet_any {P : Program} {ops : Array Oper} {o : Oper} {a : Act} {C : World → Prop} {K : Act → Prop} (hw : Region.wanted o (yielded ops a.tmps) = true)
    (h : ∃ v, (∀ w', C w' → Oper.quietUpon P C w' v ((execOp a.eval o).run P w')) ∧ K (a.put o.dst v)) : if Region.wanted o (yielded ops a.tmps) then o.quiet P a C K else K (a.put o.dst undef) := by
  rw [if_pos hw]
  exact h
theorem quiet_not {P : Program} {ops : Array Oper} {o : Oper} {a : Act} {C : World → Prop} {K : Act → Prop} (hw : Region.wanted o (yielded ops a.tmps) = false)
    (hk : K (a.put o.dst undef)) : if Region.wanted o (yielded ops a.tmps) then o.quiet P a C K else K (a.put o.dst undef) := by
  rw [if_neg (by rw [hw]; exact Bool.false_ne_true)]
  exact hk
/-- A region that draws, its operations written out, at a class of one's own. -/
theorem wp_region_class {P : Program} {id : Nat} {Q : Exit → Act → World → Prop} {a : Act} {w : World} {l : List Oper} (C : World → Prop) (hm : P.follows .mixedOrders = true) (hB : Region.lexB .any l.toArray = true) (hC : C w.drew)
    (h : wpQuiet P l.toArray C (fun a' => ∀ w', C w' → Q .normal a' w') l a) : (Code.region id l.toArray true).wp P Q a w :=
  wp_region_quiet (C := C) hm hB hC (by simpa using h)
theorem drewBelow (w : World) : Below w.heap.size w w.drew := (Below.refl _ _).drew

def LawEnd (w : World) (e : Ending) (w' : World) : Prop := e = .returned (.bool true) ∧ Below w.heap.size w w'

end Go.Proofs.Ytblgmjbajnkcdab
/-
  Plain mathematics of a topic: entries that rise, what a topic may be, told twice (the program's way and the document's), what is fetched. No program in sight. No condition.
-/
namespace Go.Proofs.Ytblgmjbajnkcdab

structure Ent where
  off : Int
  id : Int
  key : ByteArray
  body : ByteArray
instance : Inhabited Ent := ⟨⟨0, 0, ByteArray.empty, ByteArray.empty⟩⟩

structure Top where
  base : Int
  next : Int
  mark : Int
  ents : List Ent

namespace Top

/-- One entry by itself. -/
def okEnt (x : Ent) : Prop := 0 ≤ x.id ∧ x.id < 6291456 ∧ x.key.size ≤ 16 ∧ x.body.size ≤ 64
instance (x : Ent) : Decidable (okEnt x) := by unfold okEnt; infer_instance

/-- The numbers at the head. -/
def head (t : Top) : Prop := 0 ≤ t.next ∧ t.next ≤ 1073741824 ∧ 0 ≤ t.base ∧ t.base ≤ t.next ∧ 0 ≤ t.mark ∧ t.mark ≤ t.next ∧ t.ents.length ≤ 200
instance (t : Top) : Decidable (head t) := by unfold head; infer_instance

/-- The document's look at entry i. -/
def good (t : Top) (i : Nat) : Prop :=
  okEnt (t.ents.getD i default) ∧ t.base ≤ (t.ents.getD i default).off ∧ (t.ents.getD i default).off < t.next ∧
    (0 < i → (t.ents.getD (i - 1) default).off < (t.ents.getD i default).off) ∧
    ((t.ents.getD i default).off < t.mark → ∀ k, k < i → (t.ents.getD k default).key ≠ (t.ents.getD i default).key)

/-- How many entries from Mark on. -/
def whole (t : Top) (l : List Ent) : Nat := l.countP fun x => decide (t.mark ≤ x.off)

/-- May a topic be? -/
def may (t : Top) : Prop := head t ∧ (∀ i, i < t.ents.length → good t i) ∧ (whole t t.ents : Int) = t.next - max t.mark t.base

/-- The program's look: last: the offset before; seen: the keys below Mark. -/
def chk (t : Top) : Int → List ByteArray → List Ent → Prop
  | last, _, [] => max (last + 1) t.mark = t.next
  | last, seen, x :: l =>
    (okEnt x ∧ last < x.off ∧ x.off < t.next ∧ x.off ≤ max (last + 1) t.mark ∧ (x.off < t.mark → x.key ∉ seen)) ∧
      chk t x.off (if x.off < t.mark then x.key :: seen else seen) l

/-- Entries that rise above last, below next, the keys below Mark all different and none seen. -/
def rest (t : Top) : Int → List ByteArray → List Ent → Prop
  | _, _, [] => True
  | last, seen, x :: l =>
    (okEnt x ∧ last < x.off ∧ x.off < t.next ∧ (x.off < t.mark → x.key ∉ seen)) ∧ rest t x.off (if x.off < t.mark then x.key :: seen else seen) l

theorem rest_count (t : Top) : ∀ (l : List Ent) (last : Int) (seen : List ByteArray), rest t last seen l → last < t.next → (whole t l : Int) ≤ t.next - 1 - last
  | [], last, _, _, h => by simp [whole]; omega
  | x :: l, last, seen, ⟨⟨_, h1, h2, _⟩, hr⟩, h => by
    have := rest_count t l x.off _ hr h2
    unfold whole at *
    rw [List.countP_cons]
    split <;> omega

theorem chk_iff (t : Top) : ∀ (l : List Ent) (last : Int) (seen : List ByteArray), max (last + 1) t.mark ≤ t.next →
    (chk t last seen l ↔ rest t last seen l ∧ (whole t l : Int) = t.next - max (last + 1) t.mark)
  | [], last, seen, h => by simp [chk, rest, whole]; omega
  | x :: l, last, seen, h => by
    unfold chk rest
    have hw : (whole t (x :: l) : Int) = (whole t l : Int) + if t.mark ≤ x.off then 1 else 0 := by
      unfold whole
      rw [List.countP_cons]
      by_cases c : t.mark ≤ x.off <;> simp [c]
    constructor
    · rintro ⟨⟨h1, h2, h3, h4, h5⟩, hc⟩
      have ih := (chk_iff t l x.off _ (by omega)).1 hc
      refine ⟨⟨⟨h1, h2, h3, h5⟩, ih.1⟩, ?_⟩
      rw [hw, ih.2]
      split <;> omega
    · rintro ⟨⟨⟨h1, h2, h3, h5⟩, hr⟩, hcount⟩
      rw [hw] at hcount
      have hb := rest_count t l x.off _ hr h3
      have h4 : x.off ≤ max (last + 1) t.mark := by
        split at hcount <;> omega
      refine ⟨⟨h1, h2, h3, h4, h5⟩, (chk_iff t l x.off _ (by omega)).2 ⟨hr, ?_⟩⟩
      split at hcount <;> omega

theorem getD_mid {pre l : List Ent} {x : Ent} : (pre ++ x :: l).getD pre.length default = x := by simp [List.getD]
theorem getD_pre {pre l : List Ent} {k : Nat} (h : k < pre.length) : (pre ++ l).getD k default = pre.getD k default := by simp [List.getD, List.getElem?_append_left h]
theorem getD_mem {pre : List Ent} {k : Nat} (h : k < pre.length) : pre.getD k default ∈ pre := by
  have : pre.getD k default = pre[k] := by simp [List.getD, h]
  rw [this]; exact List.getElem_mem h

theorem rest_iff (t : Top) : ∀ (l pre : List Ent) (last : Int) (seen : List ByteArray), t.ents = pre ++ l → (pre = [] → last = t.base - 1) →
    (0 < pre.length → (pre.getD (pre.length - 1) default).off = last) → (∀ y ∈ pre, y.off ≤ last) → t.base - 1 ≤ last →
    (∀ k, k ∈ seen ↔ ∃ y ∈ pre, y.off < t.mark ∧ y.key = k) → (rest t last seen l ↔ ∀ i, pre.length ≤ i → i < t.ents.length → good t i)
  | [], pre, last, seen, he, _, _, _, _, _ => by
    simp only [rest, true_iff]
    intro i h1 h2
    rw [he] at h2
    simp at h2
    omega
  | x :: l, pre, last, seen, he, h0, hl, hle, hb, hs => by
    have hx : t.ents.getD pre.length default = x := by rw [he]; exact getD_mid
    have hlen : pre.length < t.ents.length := by rw [he]; simp
    have ih := rest_iff t l (pre ++ [x]) x.off (if x.off < t.mark then x.key :: seen else seen) (by rw [he]; simp) (by simp)
      (by intro _; simp) 
    have hgood : (okEnt x ∧ last < x.off ∧ x.off < t.next ∧ (x.off < t.mark → x.key ∉ seen)) ↔ good t pre.length := by
      unfold good
      rw [hx]
      constructor
      · rintro ⟨h1, h2, h3, h4⟩
        refine ⟨h1, by omega, h3, ?_, ?_⟩
        · intro hp
          rw [he, getD_pre (by omega), hl hp]
          exact h2
        · intro hm k hk
          rw [he, getD_pre hk]
          intro hkey
          exact h4 hm ((hs _).2 ⟨_, getD_mem hk, by have := hle _ (getD_mem hk); omega, hkey⟩)
      · rintro ⟨h1, h2, h3, h4, h5⟩
        refine ⟨h1, ?_, h3, ?_⟩
        · by_cases hp : 0 < pre.length
          · have := h4 hp
            rw [he, getD_pre (by omega), hl hp] at this
            exact this
          · have : pre = [] := by cases pre with
              | nil => rfl
              | cons _ _ => simp at hp
            have := h0 this
            omega
        · intro hm hmem
          obtain ⟨y, hy, _, hkey⟩ := (hs _).1 hmem
          obtain ⟨k, hk, hyk⟩ := List.getElem_of_mem hy
          have := h5 hm k hk
          rw [he, getD_pre hk] at this
          apply this
          rw [← hkey, ← hyk]
          simp [List.getD, hk]
    unfold rest
    rw [hgood]
    constructor
    · rintro ⟨hg, hr⟩
      have hgx := hgood.2 hg
      have ih' := ih (by
        intro y hy
        rw [List.mem_append] at hy
        rcases hy with hy | hy
        · have := hle y hy; omega
        · simp at hy; subst hy; omega) (by omega) (by
        intro k
        by_cases hm : x.off < t.mark
        · simp only [hm, if_true, List.mem_cons, hs, List.mem_append, List.not_mem_nil, or_false]
          constructor
          · rintro (rfl | ⟨y, hy, h⟩)
            · exact ⟨x, Or.inr rfl, hm, rfl⟩
            · exact ⟨y, Or.inl hy, h⟩
          · rintro ⟨y, hy | rfl, h⟩
            · exact Or.inr ⟨y, hy, h⟩
            · exact Or.inl h.2.symm
        · simp only [hm, if_false, hs, List.mem_append, List.mem_cons, List.not_mem_nil, or_false]
          constructor
          · rintro ⟨y, hy, h⟩; exact ⟨y, Or.inl hy, h⟩
          · rintro ⟨y, hy | rfl, h⟩
            · exact ⟨y, hy, h⟩
            · exact absurd h.1 hm)
      intro i h1 h2
      by_cases hi : i = pre.length
      · subst hi; exact hg
      · exact ih'.1 hr i (by simp; omega) h2
    · intro hall
      have hg := hall pre.length (Nat.le_refl _) hlen
      have hgx := hgood.2 hg
      have ih' := ih (by
        intro y hy
        rw [List.mem_append] at hy
        rcases hy with hy | hy
        · have := hle y hy; omega
        · simp at hy; subst hy; omega) (by omega) (by
        intro k
        by_cases hm : x.off < t.mark
        · simp only [hm, if_true, List.mem_cons, hs, List.mem_append, List.not_mem_nil, or_false]
          constructor
          · rintro (rfl | ⟨y, hy, h⟩)
            · exact ⟨x, Or.inr rfl, hm, rfl⟩
            · exact ⟨y, Or.inl hy, h⟩
          · rintro ⟨y, hy | rfl, h⟩
            · exact Or.inr ⟨y, hy, h⟩
            · exact Or.inl h.2.symm
        · simp only [hm, if_false, hs, List.mem_append, List.mem_cons, List.not_mem_nil, or_false]
          constructor
          · rintro ⟨y, hy, h⟩; exact ⟨y, Or.inl hy, h⟩
          · rintro ⟨y, hy | rfl, h⟩
            · exact ⟨y, hy, h⟩
            · exact absurd h.1 hm)
      exact ⟨hg, ih'.2 (fun i h1 h2 => hall i (by simp at h1; omega) h2)⟩

/-- THE TWO LOOKS ARE ONE. -/
theorem may_iff (t : Top) : may t ↔ head t ∧ chk t (t.base - 1) [] t.ents := by
  unfold may
  constructor
  · rintro ⟨h, hg, hw⟩
    refine ⟨h, ?_⟩
    have hh := h
    obtain ⟨h1, h2, h3, h4, h5, h6, _⟩ := hh
    have hr := (rest_iff t t.ents [] (t.base - 1) [] rfl (fun _ => rfl) (by simp) (by simp) (by omega) (by simp)).2 (fun i _ hi => hg i hi)
    exact (chk_iff t t.ents (t.base - 1) [] (by omega)).2 ⟨hr, by omega⟩
  · rintro ⟨h, hc⟩
    have hh := h
    obtain ⟨h1, h2, h3, h4, h5, h6, _⟩ := hh
    have := (chk_iff t t.ents (t.base - 1) [] (by omega)).1 hc
    refine ⟨h, fun i hi => ?_, by omega⟩
    exact (rest_iff t t.ents [] (t.base - 1) [] rfl (fun _ => rfl) (by simp) (by simp) (by omega) (by simp)).1 this.1 i (Nat.zero_le _) hi

end Top
end Go.Proofs.Ytblgmjbajnkcdab
/-
  How arguments read: from the form's reading to lists and numbers. No program in sight.
-/
namespace Go.Proofs.Ytblgmjbajnkcdab
open Go.RowKit Go.Deep Go.WideShapes Go.ChangeShapes

/-- These cells read at this type, and nothing that is met takes more than the form's own reach. -/
def Reads (P : Program) (w : World) (t : TypeId) (cs : List Value) : Prop :=
  ∃ (H : Type) (enc : TypeId × Value → H) (sp : Nat → Bool) (fuel : Nat) (x : DataW H × List MemPlace), DataW.trod enc P w 0 sp true fuel t cs = some x ∧ ∀ n ∈ x.1.weights P t, n ≤ reachBytes

theorem reads_of_trod {H : Type} {enc : TypeId × Value → H} {P : Program} {w : World} {sp : Nat → Bool} {t : TypeId} {v : Value} {d : DataW H} {ps : List MemPlace}
    (h : DataW.Trod enc P w 0 sp true t v d ps) (hw : ∀ n ∈ d.weights P t, n ≤ reachBytes) : Reads P w t v.cells.toList := by
  obtain ⟨fuel, hf⟩ := h
  exact ⟨H, enc, sp, fuel, _, hf, hw⟩

section
variable {P : Program} {w : World} {t e : TypeId} {cs : List Value}

theorem Reads.int {k : IntKind} (h : Reads P w t cs) (ht : P.underlying t = some (.int k)) : ∃ n, cs = [.int k n] ∧ (Lit.int k n).wf = true := by
  obtain ⟨H, enc, sp, fuel, x, hx, _⟩ := h
  obtain ⟨n, h1, _, h3⟩ := DataW.trod_int ht hx
  exact ⟨n, h1, h3⟩

theorem Reads.string (h : Reads P w t cs) (ht : P.underlying t = some .string) : ∃ s : ByteArray, cs = [.string s] ∧ s.size ≤ reachBytes := by
  obtain ⟨H, enc, sp, fuel, x, hx, hw⟩ := h
  obtain ⟨n, h1, h2, h3⟩ := DataW.trod_string ht hx
  refine ⟨n, h1, ?_⟩
  have := hw n.data.toList.length (by rw [h2]; simp [DataW.weights])
  simpa using this

theorem Reads.struct {fs : Array Field} (h : Reads P w t cs) (ht : P.underlying t = some (.struct fs)) :
    cs.length = P.cellsOf t ∧ ∀ (i : Nat) (f : Field), fs[i]? = some f → Reads P w f.type ((cs.drop f.offset).take (P.cellsOf f.type)) := by
  obtain ⟨H, enc, sp, fuel, x, hx, hw⟩ := h
  obtain ⟨xs, n, _, hx', hl, hlen, hf⟩ := DataW.trod_struct ht hx
  refine ⟨hl, fun i f hi => ?_⟩
  have h1 := hf i f hi
  have h2 : i < xs.length := by
    rw [hlen]
    exact (Array.getElem?_eq_some_iff.1 hi).1
  rw [List.getElem?_eq_getElem h2] at h1
  refine ⟨H, enc, sp, n, _, h1, fun k hk => hw k ?_⟩
  rw [hx']
  simp only [DataW.weights, ht]
  exact DataW.weights_mem_each (j := i) (t := f.type) (d := xs[i].1) (by simp [List.getElem?_map, hi]) (by simp [h2]) k hk

theorem weightsAll_mem {H : Type} {e : TypeId} : ∀ {l : List (DataW H)} {d : DataW H}, d ∈ l → ∀ n ∈ d.weights P e, n ∈ DataW.weightsAll P e l
  | x :: l, d, hd, n, hn => by
    simp only [DataW.weightsAll, List.mem_append]
    rcases List.mem_cons.1 hd with rfl | h
    · exact Or.inl hn
    · exact Or.inr (weightsAll_mem h n hn)
  | [], _, hd, _, _ => by simp at hd

theorem addr_add (a : Addr) (i j : Nat) (hs : (a.add i).spot = none) : (a.add i).add j = ⟨a.block, a.off + (i + j), none⟩ := by
  unfold Addr.add at *
  by_cases hi : i = 0 <;> by_cases hj : j = 0 <;> simp_all [Nat.add_assoc]
  · cases a; simp_all
theorem spot_of_cell {w : World} {a : Addr} {v : Value} (h : w.cell? a = some v) : a.spot = none := by
  unfold World.cell? at h
  split at h
  · split at h
    · cases h
    · rename_i hs; simpa using hs
  · cases h

theorem Reads.slice (h : Reads P w t cs) (ht : P.underlying t = some (.slice e)) (hk : 0 < P.cellsOf e) :
    ∃ a n cap, cs = [.slice a n cap] ∧ n ≤ cap ∧ cap ≤ maxLen ∧ (a = none → cap = 0) ∧ n * P.bytesOf e ≤ reachBytes ∧
      (0 < n → ∃ b off, a = some ⟨b, off, none⟩ ∧ ∀ i, i < n → ∃ ds : List Value, ds.length = P.cellsOf e ∧ (∀ j, j < P.cellsOf e → w.cell? ⟨b, off + (i * P.cellsOf e + j), none⟩ = ds[j]?) ∧ Reads P w e ds) := by
  obtain ⟨H, enc, sp, fuel, x, hx, hw⟩ := h
  rcases open_slice ht hx with ⟨h1, _⟩ | ⟨a, len, cap, m, n, D, Pl, h1, hb, hl, hm, hmm, hxx, hx'⟩
  · exact ⟨none, 0, 0, h1, Nat.le_refl _, Nat.zero_le _, fun _ => rfl, by simp, fun h => absurd h (Nat.lt_irrefl _)⟩
  · have hwl : len * P.bytesOf e ≤ reachBytes := by
      have h3 := hw ((((List.range len).map D).length + ((List.range (m - len)).map fun j => D (len + j)).length) * P.bytesOf e) (by rw [hxx]; simp [DataW.weights, ht])
      refine Nat.le_trans ?_ h3
      simp only [List.length_map, List.length_range]
      exact Nat.mul_le_mul_right _ (by omega)
    refine ⟨some a, len, cap, h1, hl, hm, (fun h => by cases h), hwl, fun hn => ?_⟩
    have hle : len ≤ m := by rw [hmm]; split <;> omega
    have key : ∀ i, i < len → ∃ ds : List Value, ds.length = P.cellsOf e ∧ (∀ j, j < P.cellsOf e → w.cell? ((a.add (i * P.cellsOf e)).add j) = ds[j]?) ∧ Reads P w e ds := fun i hi => by
      obtain ⟨ds, h2, h3⟩ := hx' i (by omega)
      obtain ⟨_, h4, h5⟩ := World.cells?_some h2
      refine ⟨ds, h4, h5, ⟨H, enc, sp, n, _, h3, fun k hk => hw k ?_⟩⟩
      rw [hxx]
      simp only [DataW.weights, ht, List.mem_cons, List.mem_append]
      exact Or.inr (Or.inl (weightsAll_mem (List.mem_map.2 ⟨i, List.mem_range.2 hi, rfl⟩) k hk))
    have spot : ∀ i, i < len → (a.add (i * P.cellsOf e)).spot = none := fun i hi => by
      obtain ⟨ds, h4, h5, _⟩ := key i hi
      have h6 := h5 0 hk
      rw [List.getElem?_eq_getElem (by omega)] at h6
      have : (a.add (i * P.cellsOf e)).add 0 = a.add (i * P.cellsOf e) := by simp [Addr.add]
      rw [this] at h6
      exact spot_of_cell h6
    have s0 : a.spot = none := by simpa [Addr.add] using spot 0 hn
    refine ⟨a.block, a.off, by cases a; simp_all, fun i hi => ?_⟩
    obtain ⟨ds, h4, h5, h6⟩ := key i hi
    refine ⟨ds, h4, fun j hj => ?_, h6⟩
    rw [← addr_add a (i * P.cellsOf e) j (spot i hi)]
    exact h5 j hj
end

/-- The slice v reads, in w, as the list l, an element being k cells. -/
def SliceR {α : Type} (w : World) (v : Value) (k : Nat) (cells : α → List Value) (l : List α) : Prop :=
  ∃ a cap, v = .slice a l.length cap ∧ l.length ≤ cap ∧ cap ≤ maxLen ∧ (a = none → cap = 0) ∧
    (0 < l.length → ∃ b off, a = some ⟨b, off, none⟩ ∧ ∀ i (h : i < l.length) j, j < k → w.cell? ⟨b, off + (i * k + j), none⟩ = (cells l[i])[j]?)

theorem Reads.list {α : Type} [Inhabited α] {P : Program} {w : World} {t e : TypeId} {cs : List Value} (k : Nat) (cells : α → List Value) (ok : α → Prop)
    (h : Reads P w t cs) (ht : P.underlying t = some (.slice e)) (hk : P.cellsOf e = k) (hk0 : 0 < k) (parse : ∀ ds, Reads P w e ds → ∃ y, ds = cells y ∧ ok y) :
    ∃ v l, cs = [v] ∧ SliceR w v k cells l ∧ l.length * P.bytesOf e ≤ reachBytes ∧ ∀ y ∈ l, ok y := by
  obtain ⟨a, n, cap, h1, h2, h3, h4, h6, h5⟩ := h.slice ht (by omega)
  by_cases hn : 0 < n
  · obtain ⟨b, off, ha, hd⟩ := h5 hn
    rw [hk] at hd
    obtain ⟨f, hf⟩ := choose_lt (α := α) (p := fun i y => (∀ j, j < k → w.cell? ⟨b, off + (i * k + j), none⟩ = (cells y)[j]?) ∧ ok y) (n := n) (fun i hi => by
      obtain ⟨ds, _, h7, h8⟩ := hd i hi
      obtain ⟨y, rfl, hy⟩ := parse ds h8
      exact ⟨y, h7, hy⟩)
    refine ⟨_, (List.range n).map f, h1, ⟨a, cap, by simp, by simpa using h2, h3, h4, fun _ => ⟨b, off, ha, fun i hi j hj => ?_⟩⟩, by simpa using h6, ?_⟩
    · have hi' : i < n := by simpa using hi
      simpa using (hf i hi').1 j hj
    · intro y hy
      obtain ⟨i, hi, rfl⟩ := List.mem_map.1 hy
      exact (hf i (by simpa using hi)).2
  · obtain rfl : n = 0 := by omega
    exact ⟨_, [], h1, ⟨a, cap, by simp, by simp, h3, h4, fun h => absurd h (by simp)⟩, by simp, by simp⟩

/-- A slice reads in a later world as it did. -/
theorem SliceR.below {α : Type} {w w' : World} {v : Value} {k : Nat} {cells : α → List Value} {l : List α} (h : SliceR w v k cells l) (hc : ∀ y, (cells y).length = k) (hb : Below w.heap.size w w') : SliceR w' v k cells l := by
  obtain ⟨a, cap, h1, h2, h3, h4, h5⟩ := h
  refine ⟨a, cap, h1, h2, h3, h4, fun hl => ?_⟩
  obtain ⟨b, off, ha, hd⟩ := h5 hl
  refine ⟨b, off, ha, fun i hi j hj => ?_⟩
  have := hd i hi j hj
  have hsome : ∃ u, (cells l[i])[j]? = some u := ⟨_, List.getElem?_eq_getElem (by rw [hc]; exact hj)⟩
  obtain ⟨u, hu⟩ := hsome
  rw [hu] at this ⊢
  have hlt := World.block_lt_of_cell? w _ this
  rw [hb.cell hlt]; exact this

/-! Elements laid out flat -/
theorem flat_length {α : Type} {cells : α → List Value} {k : Nat} (hc : ∀ y, (cells y).length = k) : ∀ l : List α, (l.flatMap cells).length = l.length * k
  | [] => by simp
  | y :: l => by rw [List.flatMap_cons, List.length_append, hc, flat_length hc l, List.length_cons, Nat.succ_mul, Nat.add_comm]

theorem flat_get {α : Type} {cells : α → List Value} {k : Nat} (hc : ∀ y, (cells y).length = k) : ∀ (l : List α) (i : Nat) (h : i < l.length) (j : Nat), j < k → (l.flatMap cells)[i * k + j]? = (cells l[i])[j]?
  | [], _, h, _, _ => absurd h (Nat.not_lt_zero _)
  | y :: l, 0, _, j, hj => by
    rw [List.flatMap_cons, Nat.zero_mul, Nat.zero_add, List.getElem?_append_left (by rw [hc]; exact hj)]
    rfl
  | y :: l, i + 1, h, j, hj => by
    rw [List.flatMap_cons, Nat.succ_mul, List.getElem?_append_right (by rw [hc]; omega), hc, show i * k + k + j - k = i * k + j by omega]
    rw [flat_get hc l i (by simpa using h) j hj]
    rfl

/-- The cells of a slice's elements, one by one. -/
theorem SliceR.flat {α : Type} {w : World} {b off n cap k : Nat} {cells : α → List Value} {l : List α} (h : SliceR w (.slice (some ⟨b, off, none⟩) n cap) k cells l) (hc : ∀ y, (cells y).length = k) (hk : 0 < k) :
    ∀ j u, (l.flatMap cells)[j]? = some u → w.cell? ((⟨b, off, none⟩ : Addr).add j) = some u := by
  intro j u hu
  obtain ⟨a, cap', h1, _, _, _, h5⟩ := h
  cases h1
  have hj : j < l.length * k := by
    rw [← flat_length hc l]
    exact (List.getElem?_eq_some_iff.1 hu).1
  have hl : 0 < l.length := by
    rcases Nat.eq_zero_or_pos l.length with h | h
    · rw [h] at hj; omega
    · exact h
  obtain ⟨b', off', ha, hd⟩ := h5 hl
  cases ha
  have hi : j / k < l.length := Nat.div_lt_of_lt_mul (by rw [Nat.mul_comm]; exact hj)
  have hm : j % k < k := Nat.mod_lt _ hk
  have hjj : j / k * k + j % k = j := by rw [Nat.mul_comm]; exact Nat.div_add_mod j k
  have h6 := hd (j / k) hi (j % k) hm
  rw [← flat_get hc l (j / k) hi (j % k) hm, hjj, hu] at h6
  have e : (⟨b, off, none⟩ : Addr).add j = ⟨b, off + j, none⟩ := by
    unfold Addr.add
    by_cases h0 : j = 0
    · simp [h0]
    · simp [h0]
  rw [e]; exact h6

/-- A slice of the call's own, its elements laid out flat, reads as the list. -/
theorem sliceR_of_owns {α : Type} {w : World} {base k : Nat} {e : TypeId} {v : Value} {cells : α → List Value} {l : List α} (hc : ∀ y, (cells y).length = k) (h : w.ownsRow base e k v l.length (l.flatMap cells)) :
    SliceR w v k cells l := by
  obtain ⟨_, h2⟩ := h
  rcases h2 with ⟨hv, hn⟩ | ⟨g, cap, cur, hv, hg, hh, h3, h4, h5, h6⟩
  · exact ⟨none, 0, by rw [hv, hn], by omega, Nat.zero_le _, fun _ => rfl, fun h => by omega⟩
  · refine ⟨_, cap, hv, h3, h4, (fun h => by cases h), fun hl => ⟨g, 0, rfl, fun i hi j hj => ?_⟩⟩
    have h7 : w.cell? ⟨g, 0 + (i * k + j), none⟩ = cur[i * k + j]? := by simp [World.cell?, hh]
    rw [h7, ← flat_get hc l i hi j hj, ← h6, List.getElem?_take]
    have : i * k + j < l.length * k := by
      have h8 : (i + 1) * k ≤ l.length * k := Nat.mul_le_mul_right k hi
      rw [Nat.succ_mul] at h8
      omega
    rw [if_pos this, Array.getElem?_toList]

theorem belowGrown {w w' : World} (hg : w.grownBy w' none) : Below w.heap.size w w' := (Below.refl _ _).grown hg (Nat.le_refl _) (fun k hk => by cases hk)

/-- Stamps. -/
def stCells (x : Int × Int) : List Value := [.int .i64 x.1, .int .i64 x.2]
def stVal (x : Int × Int) : Value := .agg #[.int .i64 x.1, .int .i64 x.2]
def ok64 (n : Int) : Prop := (Lit.int .i64 n).wf = true
def stOk (x : Int × Int) : Prop := ok64 x.1 ∧ ok64 x.2

theorem Reads.stamp {P : Program} {w : World} {t ti : TypeId} {cs : List Value} {f0 f1 : Field} (h : Reads P w t cs) (ht : P.underlying t = some (.struct #[f0, f1])) (hc : P.cellsOf t = 2) (hi : P.underlying ti = some (.int .i64)) (hci : P.cellsOf ti = 1)
    (e0 : f0.type = ti ∧ f0.offset = 0) (e1 : f1.type = ti ∧ f1.offset = 1) : ∃ x, cs = stCells x ∧ stOk x := by
  obtain ⟨hl, hf⟩ := h.struct ht
  rw [hc] at hl
  have r0 := hf 0 f0 rfl
  have r1 := hf 1 f1 rfl
  rw [e0.1, e0.2, hci] at r0
  rw [e1.1, e1.2, hci] at r1
  obtain ⟨a, ha, wa⟩ := r0.int hi
  obtain ⟨b, hb, wb⟩ := r1.int hi
  match cs, hl with
  | [c0, c1], _ =>
    simp at ha hb
    subst ha hb
    exact ⟨(a, b), rfl, wa, wb⟩

theorem open_stamp {P : Program} {w : World} {r : Reach} {base : Nat} {t ti : TypeId} {v : Value} {H : Type} {enc : TypeId × Value → H} {sp : Nat → Bool} {d : DataW H} {ps : List MemPlace} {f0 f1 : Field}
    (hv : Value.okWide P w r base t v) (h : DataW.Trod enc P w 0 sp true t v d ps) (hw : ∀ n ∈ d.weights P t, n ≤ reachBytes) (ht : P.underlying t = some (.struct #[f0, f1])) (hc : P.cellsOf t = 2) (hi : P.underlying ti = some (.int .i64)) (hci : P.cellsOf ti = 1)
    (e0 : f0.type = ti ∧ f0.offset = 0) (e1 : f1.type = ti ∧ f1.offset = 1) : ∃ x, v = stVal x ∧ stOk x := by
  obtain ⟨cs, rfl, _⟩ := okWide_struct ht hv
  obtain ⟨x, hx, ox⟩ := (reads_of_trod h hw).stamp ht hc hi hci e0 e1
  refine ⟨x, ?_, ox⟩
  have : cs = (stCells x).toArray := by
    have h2 : (Value.agg cs).cells = cs := rfl
    rw [h2] at hx
    rw [← hx]
  rw [this]; rfl

theorem open_stamps {P : Program} {w : World} {r : Reach} {base : Nat} {t e ti : TypeId} {v : Value} {H : Type} {enc : TypeId × Value → H} {sp : Nat → Bool} {d : DataW H} {ps : List MemPlace} {f0 f1 : Field}
    (hv : Value.okWide P w r base t v) (h : DataW.Trod enc P w 0 sp true t v d ps) (hw : ∀ n ∈ d.weights P t, n ≤ reachBytes) (hs : P.underlying t = some (.slice e)) (ht : P.underlying e = some (.struct #[f0, f1])) (hc : P.cellsOf e = 2) (hi : P.underlying ti = some (.int .i64)) (hci : P.cellsOf ti = 1)
    (e0 : f0.type = ti ∧ f0.offset = 0) (e1 : f1.type = ti ∧ f1.offset = 1) : ∃ l, SliceR w v 2 stCells l ∧ ∀ x ∈ l, stOk x := by
  obtain ⟨a, n, c, rfl⟩ := okWide_slice hs hv
  obtain ⟨v', l, h1, h2, _, h3⟩ := (reads_of_trod h hw).list 2 stCells stOk hs hc (by omega) (fun ds hd => hd.stamp ht hc hi hci e0 e1)
  have h4 : (Value.slice a n c).cells.toList = [Value.slice a n c] := rfl
  rw [h4] at h1
  simp at h1
  exact ⟨l, h1 ▸ h2, h3⟩


/-! Rows of numbers -/
def intCell (n : Int) : List Value := [.int .i64 n]
def oneCell (u : Value) : List Value := [u]

/-- A slice of slices of numbers. -/
def RowsR (w : World) (v : Value) (m : List (List Int)) : Prop :=
  ∃ us : List Value, SliceR w v 1 oneCell us ∧ us.length = m.length ∧ ∀ i, i < m.length → SliceR w (us.getD i .nilIface) 1 intCell (m.getD i [])

theorem RowsR.below {w w' : World} {v : Value} {m : List (List Int)} (h : RowsR w v m) (hb : Below w.heap.size w w') : RowsR w' v m := by
  obtain ⟨us, h1, h2, h3⟩ := h
  exact ⟨us, h1.below (fun _ => rfl) hb, h2, fun i hi => (h3 i hi).below (fun _ => rfl) hb⟩

theorem open_rows {P : Program} {w : World} {r : Reach} {base : Nat} {t e ti : TypeId} {v : Value} {H : Type} {enc : TypeId × Value → H} {sp : Nat → Bool} {d : DataW H} {ps : List MemPlace}
    (hv : Value.okWide P w r base t v) (h : DataW.Trod enc P w 0 sp true t v d ps) (hw : ∀ n ∈ d.weights P t, n ≤ reachBytes) (hs : P.underlying t = some (.slice e)) (he : P.underlying e = some (.slice ti)) (hi : P.underlying ti = some (.int .i64)) (hce : P.cellsOf e = 1) (hci : P.cellsOf ti = 1) :
    ∃ m, RowsR w v m ∧ m.length * P.bytesOf e ≤ reachBytes ∧ ∀ r ∈ m, r.length * P.bytesOf ti ≤ reachBytes ∧ ∀ x ∈ r, ok64 x := by
  obtain ⟨a, n, c, rfl⟩ := okWide_slice hs hv
  obtain ⟨v', ml, h1, h2, h2w, h3⟩ := (reads_of_trod h hw).list (α := Value × List Int) 1 (fun y => oneCell y.1) (fun y => SliceR w y.1 1 intCell y.2 ∧ y.2.length * P.bytesOf ti ≤ reachBytes ∧ ∀ x ∈ y.2, ok64 x) hs hce (by omega) (fun ds hd => by
    obtain ⟨u, l, e1, e2, e4, e3⟩ := hd.list 1 intCell ok64 he hci (by omega) (fun ds hd => by
      obtain ⟨n, e1, e2⟩ := hd.int hi
      exact ⟨n, e1, e2⟩)
    exact ⟨(u, l), e1, e2, e4, e3⟩)
  have h4 : (Value.slice a n c).cells.toList = [Value.slice a n c] := rfl
  rw [h4] at h1
  simp at h1
  subst h1
  obtain ⟨a', cap, e1, e2, e3, e4, e5⟩ := h2
  refine ⟨ml.map (·.2), ⟨ml.map (·.1), ⟨a', cap, by simpa using e1, by simpa using e2, e3, e4, fun hl => ?_⟩, by simp, fun i hi => ?_⟩, by simpa using h2w, fun r hr => ?_⟩
  · obtain ⟨b, off, ha, hd⟩ := e5 (by simpa using hl)
    exact ⟨b, off, ha, fun i hi j hj => by simpa using hd i (by simpa using hi) j hj⟩
  · have hi' : i < ml.length := by simpa using hi
    have := (h3 _ (List.getElem_mem hi')).1
    simpa [List.getD, hi'] using this
  · obtain ⟨y, hy, rfl⟩ := List.mem_map.1 hr
    exact (h3 y hy).2

/-- The cells of a slice whose elements are one cell each, as the walk spells them. -/
theorem SliceR.one {α : Type} {w : World} {v : Value} {c : α → Value} {l : List α} (d : α) (h : SliceR w v 1 (fun y => [c y]) l) :
    ∃ a cap, v = .slice a l.length cap ∧ l.length ≤ cap ∧ cap ≤ maxLen ∧ (a = none → cap = 0) ∧ (0 < l.length → ∃ b off, a = some ⟨b, off, none⟩ ∧ ∀ i, i < l.length → w.cell? ⟨b, off + i, none⟩ = some (c (l.getD i d))) := by
  obtain ⟨a, cap, h1, h2, h3, h4, h5⟩ := h
  refine ⟨a, cap, h1, h2, h3, h4, fun hl => ?_⟩
  obtain ⟨b, off, ha, hd⟩ := h5 hl
  refine ⟨b, off, ha, fun i hi => ?_⟩
  have e : l.getD i d = l[i] := by simp [List.getD, hi]
  rw [e]
  simpa using hd i hi 0 (by omega)

theorem toList_eq {u v : ByteArray} (h : u.toList = v.toList) : u = v := by
  rw [ByteArray.toList_eq, ByteArray.toList_eq] at h
  have := Array.toList_inj.1 h
  cases u; cases v; simp_all

end Go.Proofs.Ytblgmjbajnkcdab
/-
  How a topic reads: from the form's reading to numbers and entries. No program in sight.
-/
namespace Go.Proofs.Ytblgmjbajnkcdab
open Go.RowKit Go.Deep Go.WideShapes Go.ChangeShapes

def entCells (x : Ent) : List Value := [.int .i64 x.off, .int .i64 x.id, .string x.key, .string x.body]
def entVal (x : Ent) : Value := .agg #[.int .i64 x.off, .int .i64 x.id, .string x.key, .string x.body]
def entOk (x : Ent) : Prop := (ok64 x.off ∧ ok64 x.id) ∧ x.key.size ≤ reachBytes ∧ x.body.size ≤ reachBytes
theorem entCells_len (x : Ent) : (entCells x).length = 4 := rfl

/-- The value v reads as the topic t. -/
def TopR (w : World) (v : Value) (t : Top) : Prop := ∃ a cap, v = .agg #[.int .i64 t.base, .int .i64 t.next, .int .i64 t.mark, .slice a t.ents.length cap] ∧ SliceR w (.slice a t.ents.length cap) 4 entCells t.ents
def topOk (t : Top) : Prop := ((ok64 t.base ∧ ok64 t.next) ∧ ok64 t.mark) ∧ ∀ x ∈ t.ents, entOk x

theorem TopR.below {w w' : World} {v : Value} {t : Top} (h : TopR w v t) (hb : Below w.heap.size w w') : TopR w' v t := by
  obtain ⟨a, cap, h1, h2⟩ := h
  exact ⟨a, cap, h1, h2.below entCells_len hb⟩

theorem Reads.ent {P : Program} {w : World} {t ti ts : TypeId} {cs : List Value} {f0 f1 f2 f3 : Field} (h : Reads P w t cs) (ht : P.underlying t = some (.struct #[f0, f1, f2, f3])) (hc : P.cellsOf t = 4)
    (hi : P.underlying ti = some (.int .i64)) (hci : P.cellsOf ti = 1) (hs : P.underlying ts = some .string) (hcs : P.cellsOf ts = 1)
    (e0 : f0.type = ti ∧ f0.offset = 0) (e1 : f1.type = ti ∧ f1.offset = 1) (e2 : f2.type = ts ∧ f2.offset = 2) (e3 : f3.type = ts ∧ f3.offset = 3) : ∃ x, cs = entCells x ∧ entOk x := by
  obtain ⟨hl, hf⟩ := h.struct ht
  rw [hc] at hl
  have r0 := hf 0 f0 rfl
  have r1 := hf 1 f1 rfl
  have r2 := hf 2 f2 rfl
  have r3 := hf 3 f3 rfl
  rw [e0.1, e0.2, hci] at r0
  rw [e1.1, e1.2, hci] at r1
  rw [e2.1, e2.2, hcs] at r2
  rw [e3.1, e3.2, hcs] at r3
  obtain ⟨a, ha, wa⟩ := r0.int hi
  obtain ⟨b, hb, wb⟩ := r1.int hi
  obtain ⟨s, hs', ws⟩ := r2.string hs
  obtain ⟨u, hu, wu⟩ := r3.string hs
  match cs, hl with
  | [c0, c1, c2, c3], _ =>
    simp at ha hb hs' hu
    subst ha hb hs' hu
    exact ⟨⟨a, b, s, u⟩, rfl, ⟨wa, wb⟩, ws, wu⟩

/-- The types that a topic needs. -/
structure TopTypes (P : Program) (t e te ti ts : TypeId) (f0 f1 f2 f3 g0 g1 g2 g3 : Field) : Prop where
  ht : P.underlying t = some (.struct #[f0, f1, f2, f3])
  hc : P.cellsOf t = 4
  he : P.underlying e = some (.slice te)
  hce : P.cellsOf e = 1
  hte : P.underlying te = some (.struct #[g0, g1, g2, g3])
  hcte : P.cellsOf te = 4
  hi : P.underlying ti = some (.int .i64)
  hci : P.cellsOf ti = 1
  hs : P.underlying ts = some .string
  hcs : P.cellsOf ts = 1
  e0 : f0.type = ti ∧ f0.offset = 0
  e1 : f1.type = ti ∧ f1.offset = 1
  e2 : f2.type = ti ∧ f2.offset = 2
  e3 : f3.type = e ∧ f3.offset = 3
  k0 : g0.type = ti ∧ g0.offset = 0
  k1 : g1.type = ti ∧ g1.offset = 1
  k2 : g2.type = ts ∧ g2.offset = 2
  k3 : g3.type = ts ∧ g3.offset = 3

theorem open_topic {P : Program} {w : World} {r : Reach} {base : Nat} {t e te ti ts : TypeId} {v : Value} {H : Type} {enc : TypeId × Value → H} {sp : Nat → Bool} {d : DataW H} {ps : List MemPlace} {f0 f1 f2 f3 g0 g1 g2 g3 : Field}
    (hv : Value.okWide P w r base t v) (h : DataW.Trod enc P w 0 sp true t v d ps) (hw : ∀ n ∈ d.weights P t, n ≤ reachBytes) (T : TopTypes P t e te ti ts f0 f1 f2 f3 g0 g1 g2 g3) :
    ∃ x : Top, TopR w v x ∧ topOk x ∧ x.ents.length * P.bytesOf te ≤ reachBytes := by
  obtain ⟨cs, rfl, _⟩ := okWide_struct T.ht hv
  have hr := reads_of_trod h hw
  have h2 : (Value.agg cs).cells = cs := rfl
  rw [h2] at hr
  obtain ⟨hl, hf⟩ := hr.struct T.ht
  rw [T.hc] at hl
  have r0 := hf 0 f0 rfl
  have r1 := hf 1 f1 rfl
  have r2 := hf 2 f2 rfl
  have r3 := hf 3 f3 rfl
  rw [T.e0.1, T.e0.2, T.hci] at r0
  rw [T.e1.1, T.e1.2, T.hci] at r1
  rw [T.e2.1, T.e2.2, T.hci] at r2
  rw [T.e3.1, T.e3.2, T.hce] at r3
  obtain ⟨a, ha, wa⟩ := r0.int T.hi
  obtain ⟨b, hb, wb⟩ := r1.int T.hi
  obtain ⟨c, hc', wc⟩ := r2.int T.hi
  obtain ⟨u, l, hu, hs, hsz, hok⟩ := r3.list 4 entCells entOk T.he T.hcte (by omega) (fun ds hd => hd.ent T.hte T.hcte T.hi T.hci T.hs T.hcs T.k0 T.k1 T.k2 T.k3)
  have hs' := hs
  obtain ⟨ad, cap, hua, _⟩ := hs'
  subst hua
  have hcs : cs = #[.int .i64 a, .int .i64 b, .int .i64 c, .slice ad l.length cap] := by
    obtain ⟨l'⟩ := cs
    simp only at hl ha hb hc' hu
    match l', hl with
    | [c0, c1, c2, c3], _ =>
      simp at ha hb hc' hu
      subst ha hb hc' hu
      rfl
  rw [hcs]
  exact ⟨⟨a, b, c, l⟩, ⟨ad, cap, rfl, hs⟩, ⟨⟨⟨wa, wb⟩, wc⟩, hok⟩, hsz⟩

/-- The cells of a topic's entries, as the walk spells them: base, offset, and each entry's four. -/
def EntsAt (w : World) (b off : Nat) (l : List Ent) : Prop :=
  ∀ i, i < l.length → ((w.cell? ⟨b, off + i * 4, none⟩ = some (.int .i64 (l.getD i default).off) ∧ w.cell? ⟨b, off + i * 4 + 1, none⟩ = some (.int .i64 (l.getD i default).id)) ∧
    w.cell? ⟨b, off + i * 4 + 2, none⟩ = some (.string (l.getD i default).key)) ∧ w.cell? ⟨b, off + i * 4 + 3, none⟩ = some (.string (l.getD i default).body)

theorem SliceR.ents {w : World} {a : Option Addr} {n cap : Nat} {l : List Ent} (h : SliceR w (.slice a n cap) 4 entCells l) :
    (n = l.length ∧ n ≤ cap) ∧ (cap ≤ maxLen ∧ (a = none → cap = 0)) ∧ (0 < n → ∃ b off, a = some ⟨b, off, none⟩ ∧ EntsAt w b off l) := by
  obtain ⟨a', cap', h1, h2, h3, h4, h5⟩ := h
  cases h1
  refine ⟨⟨rfl, h2⟩, ⟨h3, h4⟩, fun hl => ?_⟩
  obtain ⟨b, off, ha, hd⟩ := h5 hl
  refine ⟨b, off, ha, fun i hi => ?_⟩
  have e : l.getD i default = l[i] := by simp [List.getD, hi]
  rw [e]
  exact ⟨⟨⟨by simpa [entCells] using hd i hi 0 (by omega), by simpa [entCells, Nat.add_assoc] using hd i hi 1 (by omega)⟩, by simpa [entCells, Nat.add_assoc] using hd i hi 2 (by omega)⟩, by simpa [entCells, Nat.add_assoc] using hd i hi 3 (by omega)⟩

end Go.Proofs.Ytblgmjbajnkcdab
/-
  Plain: whether a topic may be is decided; the empty topic. No program in sight.
-/
namespace Go.Proofs.Ytblgmjbajnkcdab
instance (t : Top) (i : Nat) : Decidable (Top.good t i) := by unfold Top.good; infer_instance
instance (t : Top) : Decidable t.may := by unfold Top.may; infer_instance
def Top.zero : Top := ⟨0, 0, 0, []⟩
end Go.Proofs.Ytblgmjbajnkcdab
/-
  The keys that were seen: a map of strings that a call makes and keeps to itself, as a list. No program in sight.
-/
namespace Go.Proofs.Ytblgmjbajnkcdab
open Go.RowKit Go.Maps Go.WideMaps

/-- Block b of w is a map of at most n entries: 1 at each key of seen, nothing else. -/
def Seen (P : Program) (ts ti : TypeId) (w : World) (b n : Nat) (seen : List ByteArray) : Prop :=
  ∃ D : DataW Unit, w.ownsMap P ts (plainElem P ti) b n D ∧ IsMap D ∧ ∀ s : ByteArray, (s ∈ seen → D.atKey (.string s.data.toList) (.lit (.int .i64 0)) = .lit (.int .i64 1)) ∧ (s ∉ seen → D.atKey (.string s.data.toList) (.lit (.int .i64 0)) = .lit (.int .i64 0))

variable {P : Program} {ts ti tm : TypeId} {w w' : World} {b n : Nat} {seen : List ByteArray}

theorem Seen.made (P : Program) (ts ti : TypeId) (w : World) : Seen P ts ti (w.alloc (.map #[] 0)) w.heap.size 0 [] :=
  ⟨.map [], World.ownsMap_made _ _ _ _, ⟨_, rfl⟩, fun _ => ⟨fun h => absurd h (by simp), fun _ => by simp [DataW.atKey]⟩⟩

theorem Seen.mono (h : Seen P ts ti w b n seen) {m : Nat} (hm : n ≤ m) : Seen P ts ti w b m seen := by
  obtain ⟨D, h1, h2, h3⟩ := h
  exact ⟨D, h1.mono hm, h2, h3⟩

theorem Seen.lt (h : Seen P ts ti w b n seen) : b < w.heap.size := h.choose_spec.1.lt

theorem Seen.same (h : Seen P ts ti w b n seen) (hb : w'.heap[b]? = w.heap[b]?) : Seen P ts ti w' b n seen := by
  obtain ⟨D, ⟨es, clock, e1, e2⟩, h2, h3⟩ := h
  exact ⟨D, ⟨es, clock, by rw [hb]; exact e1, e2⟩, h2, h3⟩
theorem Seen.below (h : Seen P ts ti w b n seen) (hb : Below w.heap.size w w') : Seen P ts ti w' b n seen := h.same (hb.block b h.lt)

theorem Seen.look (h : Seen P ts ti w b n seen) (hts : P.underlying ts = some .string) (hm : P.underlying tm = some (.map ts ti)) (hti : P.underlying ti = some (.int .i64)) (hz : (zeroValue ti).run P w = .ok (.int .i64 0) w) {s : ByteArray} (hs : s.size ≤ maxLen) (c : Int)
    (hc : (s ∈ seen ∧ c = 1) ∨ (s ∉ seen ∧ c = 0)) : (Instr.lookup tm (.map (some b)) (.string s) false).run P w = .ok (.int .i64 c) w := by
  obtain ⟨D, h1, h2, h3⟩ := h
  obtain ⟨c', hrun, hat, _⟩ := h1.lookup_int (string_keyed hts) hm hti hz (keyOf_string_mk hts hs)
  rcases hc with ⟨hi, rfl⟩ | ⟨hi, rfl⟩
  · rw [(h3 s).1 hi] at hat
    cases hat
    exact hrun
  · rw [(h3 s).2 hi] at hat
    cases hat
    exact hrun

theorem Seen.store (h : Seen P ts ti w b n seen) (hts : P.underlying ts = some .string) (hm : P.underlying tm = some (.map ts ti)) (hti : P.underlying ti = some (.int .i64)) (hn : n < maxLen) {s : ByteArray} (hs : s.size ≤ maxLen) :
    ∃ w', (Instr.mapUpdate tm (.map (some b)) (.string s) (.int .i64 1)).run P w = .ok () w' ∧ Seen P ts ti w' b (n + 1) (s :: seen) ∧ w.grownBy w' (some b) := by
  obtain ⟨D, h1, h2, h3⟩ := h
  obtain ⟨w', hrun, hown, hg⟩ := h1.update (string_keyed hts) hm hn (keyOf_string_mk hts hs) (plainElem_int hti (a := 1) (by decide))
  refine ⟨w', hrun, ⟨_, hown, ?_, fun u => ?_⟩, hg⟩
  · obtain ⟨l, rfl⟩ := h2
    exact ⟨_, rfl⟩
  · by_cases hu : u = s
    · rw [hu]
      have e := atKey_put_same (H := Unit) h2 (k := .string s.data.toList) trivial (.lit (.int .i64 1)) (.lit (.int .i64 0))
      exact ⟨fun _ => e, fun h => absurd (List.mem_cons_self) h⟩
    · have hne : Lit.string u.data.toList ≠ Lit.string s.data.toList := fun e => hu (by
        have e1 : u.data.toList = s.data.toList := by injection e
        have e2 : u.data = s.data := Array.toList_inj.1 e1
        cases u; cases s; simp_all)
      have e := atKey_put_other (H := Unit) (D := D) hne (.lit (.int .i64 1)) (.lit (.int .i64 0))
      refine ⟨fun h => ?_, fun h => ?_⟩
      · rw [e]
        exact (h3 u).1 ((List.mem_cons.1 h).resolve_left hu)
      · rw [e]
        exact (h3 u).2 (fun h' => h (List.mem_cons_of_mem _ h'))

end Go.Proofs.Ytblgmjbajnkcdab
/-
  Keys that were seen: one is struck. No program in sight.
-/
namespace Go.Proofs.Ytblgmjbajnkcdab
open Go.RowKit Go.Maps Go.WideMaps

variable {P : Program} {ts ti tm : TypeId} {w w' : World} {b n : Nat} {seen : List ByteArray}

theorem Seen.delete (h : Seen P ts ti w b n seen) (hts : P.underlying ts = some .string) (hm : P.underlying tm = some (.map ts ti)) {s : ByteArray} (hs : s.size ≤ maxLen) (ty : TypeId) :
    ∃ w', (Builtin.delete_ #[tm, ts] ty #[.map (some b), .string s]).run P w = .ok (.tuple #[]) w' ∧ Seen P ts ti w' b n (seen.filter fun k => decide (k ≠ s)) ∧ w.grownBy w' (some b) := by
  obtain ⟨D, h1, h2, h3⟩ := h
  obtain ⟨w', hrun, hown, hg⟩ := h1.drop (string_keyed hts) hm (keyOf_string_mk hts hs) ty
  refine ⟨w', hrun, ⟨_, hown, ?_, fun u => ?_⟩, hg.grown⟩
  · obtain ⟨l, rfl⟩ := h2
    exact ⟨_, rfl⟩
  · by_cases hu : u = s
    · rw [hu]
      have e := atKey_del_same (H := Unit) (D := D) (k := .string s.data.toList) (.lit (.int .i64 0))
      exact ⟨fun h => by simp at h, fun _ => e⟩
    · have hne : Lit.string u.data.toList ≠ Lit.string s.data.toList := fun e => hu (by
        have e1 : u.data.toList = s.data.toList := by injection e
        have e2 : u.data = s.data := Array.toList_inj.1 e1
        cases u; cases s; simp_all)
      have e := atKey_del_other (H := Unit) (D := D) hne (.lit (.int .i64 0))
      refine ⟨fun h => ?_, fun h => ?_⟩
      · rw [e]
        exact (h3 u).1 (List.mem_filter.1 h).1
      · rw [e]
        exact (h3 u).2 (fun h' => h (List.mem_filter.2 ⟨h', by simpa using hu⟩))

end Go.Proofs.Ytblgmjbajnkcdab
/-
  Blocks of the call's own, known whole. No program in sight.
-/
namespace Go.Proofs.Ytblgmjbajnkcdab
open Go.RowKit

/-- Block g of w is just these cells. -/
def Blk (w : World) (g : Nat) (t : TypeId) (cs : List Value) : Prop := w.heap[g]? = some (.cells cs.toArray t (0, 0))
section
variable {w w' : World} {g : Nat} {t : TypeId} {cs : List Value}
theorem Blk.lt (h : Blk w g t cs) : g < w.heap.size := by
  rcases Nat.lt_or_ge g w.heap.size with hlt | hge
  · exact hlt
  · unfold Blk at h; rw [Array.getElem?_eq_none hge] at h; cases h
theorem Blk.cell (h : Blk w g t cs) (i : Nat) : w.cell? ⟨g, i, none⟩ = cs[i]? := by
  unfold Blk at h
  simp [World.cell?, h]
theorem Blk.free (h : Blk w g t cs) (i : Nat) : w.frozen? ⟨g, i, none⟩ = false := by
  unfold Blk at h
  simp [World.frozen?, h]
theorem Blk.new (hg : g = w.heap.size) : Blk (w.alloc (.cells cs.toArray t)) g t cs := by
  subst hg
  show (w.heap.push _)[w.heap.size]? = _
  simp
theorem Blk.drew (h : Blk w g t cs) : Blk w.drew g t cs := h
theorem Blk.alloc (h : Blk w g t cs) (o : Obj) : Blk (w.alloc o) g t cs := (Below.heap_alloc w o g h.lt).trans h
theorem Blk.set_ (h : Blk w g t cs) (i : Nat) (u : Value) : Blk (w.setCell ⟨g, i, none⟩ u) g t (cs.set i u) := by
  unfold Blk at h ⊢
  simp [World.setCell, Array.getElem?_modify, h]
theorem Blk.far (h : Blk w g t cs) {b o : Nat} (hp : g ≠ b) (u : Value) : Blk (w.setCell ⟨b, o, none⟩ u) g t cs := (Below.heap_setCell w ⟨b, o, none⟩ u g hp).trans h
theorem Blk.below {B : Nat} (h : Blk w g t cs) (hb : Below B w w') (hg : g < B) : Blk w' g t cs := (hb.block g hg).trans h
theorem Blk.step (h : Blk w g t cs) (hb : Below w.heap.size w w') : Blk w' g t cs := h.below hb h.lt
theorem Blk.grown {row : Option Nat} (h : Blk w g t cs) (hb : w.grownBy w' row) (hg : row ≠ some g) : Blk w' g t cs := (hb.block g h.lt (fun e => hg e.symm)).trans h
end
theorem cells1 {w : World} {g : Nat} {t : TypeId} {a : Value} (h : Blk w g t [a]) : w.cell? ⟨g, 0, none⟩ = some a ∧ ∀ o, w.frozen? ⟨g, o, none⟩ = false := ⟨h.cell 0, h.free⟩
theorem cells2 {w : World} {g : Nat} {t : TypeId} {a b : Value} (h : Blk w g t [a, b]) : w.cell? ⟨g, 0, none⟩ = some a ∧ w.cell? ⟨g, 1, none⟩ = some b ∧ ∀ o, w.frozen? ⟨g, o, none⟩ = false := ⟨h.cell 0, h.cell 1, h.free⟩
theorem cells4 {w : World} {g : Nat} {t : TypeId} {a b c d : Value} (h : Blk w g t [a, b, c, d]) :
    w.cell? ⟨g, 0, none⟩ = some a ∧ w.cell? ⟨g, 1, none⟩ = some b ∧ w.cell? ⟨g, 2, none⟩ = some c ∧ w.cell? ⟨g, 3, none⟩ = some d ∧ ∀ o, w.frozen? ⟨g, o, none⟩ = false := ⟨h.cell 0, h.cell 1, h.cell 2, h.cell 3, h.free⟩

/-- A fact on the world at which a call stands. -/
theorem at_world {P : Program} {f : FuncId} {args : Array Value} {w : World} {Q : Ending → World → Prop} {C : World → Prop} (h : C w) (k : C w → Calls P f args w Q) : Calls P f args w Q := k h

theorem Below.step {B : Nat} {a w w' : World} (h : Below B a w) (hb : Below w.heap.size w w') (hB : B ≤ w.heap.size) : Below B a w' := h.trans (hb.mono hB)

end Go.Proofs.Ytblgmjbajnkcdab
