/-
  Texts that belong together; the remark at the head of each says what it proves.
-/
import Derived.Test.YtblgmjbajnkcdabProg
import Derived.Test.YtblgmjbajnkcdabBunA
import Derived.OwnWalk
import Derived.Deep.DeepMust
import Derived.Laws.AppendOwnNone
import Derived.WalkLawsBesides
import Derived.Laws.Rows
import Derived.OneCell
import Derived.WalkKit
import Derived.KernelRfl
import Derived.Deep.LoopGhost
set_option maxRecDepth 100000
/-
  slices.Clone at entries, topic.Twin. No condition but that the entries read and are not very many.
-/
namespace Go.Proofs.Ytblgmjbajnkcdab
open Go.RowKit

theorem info_ent : (Try.prog.info? 29).map (fun i => (i.zero, i.size, i.bytes)) = some (some (.agg #[.int .i64 0, .int .i64 0, .string ByteArray.empty, .string ByteArray.empty]), 4, 48) := by kernel_rfl

/-- The slice v is the call's own; it reads as l. -/
abbrev OwnE (w : World) (base : Nat) (v : Value) (l : List Ent) : Prop := w.ownsRow base 29 4 v l.length (l.flatMap entCells)
theorem OwnE.reads {w : World} {base : Nat} {v : Value} {l : List Ent} (h : OwnE w base v l) : SliceR w v 4 entCells l := sliceR_of_owns entCells_len h
theorem flat_len (l : List Ent) : (l.flatMap entCells).length = l.length * 4 := flat_length entCells_len l
theorem flat_one4 (l : List Ent) : ∀ v ∈ l.flatMap entCells, v.oneCell' = true := by
  intro v hv
  obtain ⟨x, _, hx⟩ := List.mem_flatMap.1 hv
  simp only [entCells, List.mem_cons, List.not_mem_nil, or_false] at hx
  rcases hx with rfl | rfl | rfl | rfl <;> rfl

def CloneEnd (l : List Ent) (w : World) (e : Ending) (w' : World) : Prop := ∃ a cap, e = .returned (.slice a l.length cap) ∧ OwnE w' w.heap.size (.slice a l.length cap) l ∧ Below w.heap.size w w'

theorem own_shape {w : World} {base : Nat} {v : Value} {l : List Ent} (h : OwnE w base v l) : ∃ a cap, v = .slice a l.length cap := by
  rcases h.2 with ⟨e, h0⟩ | ⟨g, cp, _, e, _⟩
  · exact ⟨none, 0, by rw [e, h0]⟩
  · exact ⟨_, _, e⟩

theorem clone_nil (w : World) : Calls Try.prog 55 #[.slice none 0 0] w (CloneEnd [] w) := by
  have hE := fun w' => Lib.run_eql_slice_nil w' 68 29 none 0 0 0 0 Try.underlying68
  simp only [Option.isNone_none] at hE
  go_enter Try.func55, Try.ntmps55
  go_wp2_with fail
  go_ret
  exact ⟨none, 0, rfl, World.ownsRow_nil _ _ _ _, Below.refl _ _⟩

set_option maxHeartbeats 1000000 in
theorem clone_some (ad : Addr) (n cap : Nat) (l : List Ent) (w : World) (h : SliceR w (.slice (some ad) n cap) 4 entCells l) (hl : l.length * 48 ≤ 140737488355328) :
    Calls Try.prog 55 #[.slice (some ad) n cap] w (CloneEnd l w) := by
  obtain ⟨i0, hi, hz0, hz1, hz2⟩ := info_parts info_ent
  have H := Lib.hid h
  have HL := Lib.hid hl
  have HN := Lib.hid h.ents.1.1
  have HNP := Lib.hid h.ents.2.2
  clear h hl
  have hE := fun w' => Lib.run_eql_slice_nil w' 68 29 (some ad) n cap 0 0 Try.underlying68
  simp only [Option.isNone_some] at hE
  go_enter Try.func55, Try.ntmps55
  go_wp2_with (at_builtin; go_must (refine wpList_append_own _ rfl _ _ 68 rfl w.heap.size 29 i0 _ 4 48 Try.underlying68 hi hz0 hz1 hz2 rfl (by decide) _ 0 [] rfl (World.ownsRow_made w #[] 0 (Nat.le_refl _) (Nat.zero_le _) rfl) ad n cap (l.flatMap entCells) rfl (by rw [flat_len, HN.out]) ?_ (flat_one4 l) (by have := HL.out; rw [HN.out]; unfold maxLen; omega) (by have := HL.out; rw [HN.out]; omega) (by simp) ?_))
  · intro j v hv
    have hn0 : 0 < n := by
      have := (List.getElem?_eq_some_iff.1 hv).1
      rw [flat_len, ← HN.out] at this
      omega
    obtain ⟨b, off, e, _⟩ := HNP.out hn0
    cases e
    have h2 := (H.out.below entCells_len ((Below.refl _ _).alloc (Nat.le_refl _) (.cells #[] 29))).flat entCells_len (by omega) j v hv
    exact h2
  · intro v' w' hown hgrow _
    have hb := ((Below.refl w.heap.size w).alloc (Nat.le_refl _) (.cells #[] 29)).grown hgrow (by simp) (fun j hj => by cases hj; exact Nat.le_refl _)
    have ho : OwnE w' w.heap.size v' l := by simpa [HN.out] using hown
    obtain ⟨a', cap', hv'⟩ := own_shape ho
    subst hv'
    have HO := Lib.hid ho
    have HB := Lib.hid hb
    clear hown hgrow hb ho
    go_wp2_with fail
    go_ret
    exact ⟨a', cap', rfl, HO.out, HB.out⟩

theorem clone_wide {v : Value} {l : List Ent} {w : World} (h : SliceR w v 4 entCells l) (hl : l.length * 48 ≤ 140737488355328) :
    Calls Try.prog 55 #[v] w (CloneEnd l w) := by
  have h' := h
  obtain ⟨a, cap, hv, hcap, _, hnone, hc⟩ := h'
  subst hv
  cases a with
  | none =>
    have h0 : l.length = 0 := by have := hnone rfl; omega
    have hl0 : l = [] := List.length_eq_zero_iff.1 h0
    subst hl0
    have hc0 : cap = 0 := hnone rfl
    subst hc0
    exact clone_nil w
  | some ad => exact clone_some ad _ cap l w h hl

theorem clone_any {v : Value} {l : List Ent} {w : World} (h : SliceR w v 4 entCells l) (hl : l.length ≤ 1000000) :
    Calls Try.prog 55 #[v] w (CloneEnd l w) := clone_wide h (by omega)

/-- A topic that the call made: its entries lie in its own block. -/
def TwinEnd17 (t : Top) (w : World) (e : Ending) (w' : World) : Prop :=
  ∃ a cap, e = .returned (.agg #[.int .i64 t.base, .int .i64 t.next, .int .i64 t.mark, .slice a t.ents.length cap]) ∧ OwnE w' w.heap.size (.slice a t.ents.length cap) t.ents ∧ Below w.heap.size w w'

end Go.Proofs.Ytblgmjbajnkcdab
/-
  A slice from a place on reads as the list from there on. No program in sight.
-/
namespace Go.Proofs.Ytblgmjbajnkcdab
open Go.RowKit

theorem sliceR_drop {w : World} {a : Option Addr} {n cap : Nat} {l : List Ent} (h : SliceR w (.slice a n cap) 4 entCells l) {k : Nat} (hk : k ≤ n) :
    SliceR w (.slice (if cap = k then a else a.map (·.add (k * 4))) (n - k) (cap - k)) 4 entCells (l.drop k) := by
  obtain ⟨a', cap', e, h2, h3, h4, h5⟩ := h
  cases e
  refine ⟨_, cap - k, by rw [List.length_drop], by rw [List.length_drop]; omega, by omega, fun hn => ?_, fun hl => ?_⟩
  · by_cases hc : cap = k
    · omega
    · rw [if_neg hc] at hn
      cases a with
      | none => have := h4 rfl; omega
      | some ad => simp at hn
  · rw [List.length_drop] at hl
    obtain ⟨b, off, ha, hd⟩ := h5 (by omega)
    subst ha
    rw [if_neg (by omega)]
    refine ⟨b, off + k * 4, by simp [Addr.add], fun i hi j hj => ?_⟩
    have := hd (k + i) (by rw [List.length_drop] at hi; omega) j hj
    rw [List.getElem_drop]
    rw [← this]
    congr 2
    omega
end Go.Proofs.Ytblgmjbajnkcdab
/-
  Own rows of entries over stores, and a slice of them from a place on. No condition.
-/
namespace Go.Proofs.Ytblgmjbajnkcdab
open Go.RowKit

theorem own_set {W : World} {B b o : Nat} {v u : Value} {l : List Ent} (h : OwnE W B v l) (hb : b < B) : OwnE (W.setCell ⟨b, o, none⟩ u) B v l :=
  ownsRow_setCell_other h (fun e => by have := (h.lt _ e).1; simp at this; omega) u
theorem own_alloc {W : World} {B : Nat} {v : Value} {l : List Ent} (h : OwnE W B v l) {o : Obj} : OwnE (W.alloc o) B v l := h.alloc _
theorem own_drew {W : World} {B : Nat} {v : Value} {l : List Ent} (h : OwnE W B v l) : OwnE W.drew B v l := h
theorem own_base {W : World} {B B' : Nat} {v : Value} {l : List Ent} (h : OwnE W B v l) (hB : B' ≤ B) : OwnE W B' v l :=
  ⟨h.1, h.2.elim Or.inl (fun ⟨g, cp, cur, hv, hg, r⟩ => Or.inr ⟨g, cp, cur, hv, by omega, r⟩)⟩
theorem own_below {W W' : World} {B : Nat} {v : Value} {l : List Ent} (h : OwnE W B v l) (hb : Below W.heap.size W W') : OwnE W' B v l :=
  ⟨h.1, h.2.elim Or.inl (fun ⟨g, cp, cur, hv, hg, hh, r⟩ => Or.inr ⟨g, cp, cur, hv, hg, (hb.block g (h.lt g (by rw [hv]; rfl)).2).trans hh, r⟩)⟩

theorem slice_from {a : Option Addr} {n cap : Nat} {l : List Ent} {w : World} (h : SliceR w (.slice a n cap) 4 entCells l) (k : Nat) (hk : k ≤ n) :
    ∃ A', (∀ W, (Instr.slice 68 (.slice a n cap) (some (.int .i64 (k : Int))) none none).run Try.prog W = .ok (.slice A' (n - k) (cap - k)) W) ∧ SliceR w (.slice A' (n - k) (cap - k)) 4 entCells (l.drop k) := by
  refine ⟨_, fun W => ?_, sliceR_drop h hk⟩
  have k0 : (0 : Int) ≤ (k : Int) := by omega
  have k1 : (k : Int) ≤ (n : Int) := by omega
  go_simp
end Go.Proofs.Ytblgmjbajnkcdab
/-
  Standing facts behind one more call. No program in sight.
-/
namespace Go.Proofs.Ytblgmjbajnkcdab
open Go.RowKit

theorem below_alloc {a w : World} (h : Below a.heap.size a w) {o : Obj} : Below a.heap.size a (w.alloc o) := h.alloc h.size o
theorem below_step {a w w' : World} (h : Below a.heap.size a w) (hb : Below w.heap.size w w') : Below a.heap.size a w' := h.trans (hb.mono h.size)
theorem topR_step {w W w' : World} {v : Value} {t : Top} (h : TopR w v t) (h1 : Below w.heap.size w W) (hb : Below W.heap.size W w') : TopR w' v t := h.below (below_step h1 hb)
theorem own_step {W w' : World} {B : Nat} {v : Value} {l : List Ent} (h : OwnE W B v l) (hb : Below W.heap.size W w') : OwnE w' B v l := own_below h hb

/-- What was there in w0 is there still. -/
def Since (w0 w : World) : Prop := Below w0.heap.size w0 w
theorem Since.out {w0 w : World} (h : Since w0 w) : Below w0.heap.size w0 w := h
/-- A region that draws its order and only reads, its calls such as make memory: as one call. -/
theorem wp_region_below {P : Program} {id : Nat} {Q : Exit → Act → World → Prop} {a : Act} {w : World} {l : List Oper} (hm : P.follows .mixedOrders = true) (hB : Region.lexB .any l.toArray = true)
    (h : wpQuiet P l.toArray (fun W => Since w W) (fun a' => ∀ w', Below w.heap.size w w' → Q .normal a' w') l a) : (Code.region id l.toArray true).wp P Q a w :=
  wp_region_class (fun W => Since w W) hm hB (Below.refl _ _).drew h
theorem call_in {P : Program} {f : FuncId} {args : Array Value} {w0 w : World} {v : Value} (hq : Below w0.heap.size w0 w) (h : Calls P f args w fun e w' => e = .returned v ∧ Below w.heap.size w w') :
    Calls P f args w fun e w' => e = .returned v ∧ Since w0 w' := h.mono fun _ _ ⟨h1, h2⟩ => ⟨h1, below_step hq h2⟩
/-- The world at which the walk stands, under a letter, of which C alone is known. -/
theorem at_code {P : Program} {c : Code} {Q : Exit → Act → World → Prop} {a : Act} {w : World} (C : World → Prop) (h : C w) (k : ∀ W, C W → Code.wp P c Q a W) : Code.wp P c Q a w := k w h
end Go.Proofs.Ytblgmjbajnkcdab
/-
  topic.Twin. No condition but that the topic reads and is not very great.
-/
namespace Go.Proofs.Ytblgmjbajnkcdab
open Go.RowKit

set_option maxHeartbeats 1000000 in
set_option maxRecDepth 100000 in
theorem topTwin_any {v : Value} {t : Top} {w : World} (h : TopR w v t) (hl : t.ents.length ≤ 1000000) : Calls Try.prog 89 #[v] w (TwinEnd17 t w) := by
  obtain ⟨a, cap, rfl, hs⟩ := h
  have HS := Lib.hid hs
  have HL := Lib.hid hl
  obtain ⟨base, hbase⟩ : ∃ base, base = t.base := ⟨_, rfl⟩
  obtain ⟨next, hnext⟩ : ∃ next, next = t.next := ⟨_, rfl⟩
  obtain ⟨mark, hmark⟩ : ∃ mark, mark = t.mark := ⟨_, rfl⟩
  obtain ⟨n, hn⟩ : ∃ n, n = t.ents.length := ⟨_, rfl⟩
  rw [← hbase, ← hnext, ← hmark, ← hn]
  rw [← hn] at HS
  have HBS := Lib.hid hbase
  have HNX := Lib.hid hnext
  have HMK := Lib.hid hmark
  have HN := Lib.hid hn
  clear hbase hnext hmark hn hs hl
  go_enter Try.func89, Try.ntmps89
  go_wp2_with fail
  refine (clone_any (HS.out.below entCells_len (((Below.refl _ _).alloc (Nat.le_refl _) _).alloc (by simp) _)) HL.out).mono ?_
  rintro e w2 ⟨a', cap', rfl, ho, hb⟩
  rw [← HN.out] at ho
  have ek : t.ents.length = n := HN.out.symm
  rw [ek]
  clear ek
  have HO := Lib.hid ho
  have HB := Lib.hid hb
  have b0 := keep hb (a := ⟨w.heap.size, 0, none⟩) (v := .int .i64 base) (by go_simp)
  have b1 := keep hb (a := ⟨w.heap.size, 1, none⟩) (v := .int .i64 next) (by go_simp)
  have b2 := keep hb (a := ⟨w.heap.size, 2, none⟩) (v := .int .i64 mark) (by go_simp)
  have b3 := keep hb (a := ⟨w.heap.size, 3, none⟩) (v := .slice a n cap) (by go_simp)
  have z3 : w2.frozen? ⟨w.heap.size, 3, none⟩ = false := by rw [hb.frozen (p := ⟨w.heap.size, 3, none⟩) (by simp; omega)]; go_simp
  have r0 := keep hb (a := ⟨w.heap.size + 1, 0, none⟩) (v := .int .i64 0) (by go_simp)
  have r1 := keep hb (a := ⟨w.heap.size + 1, 1, none⟩) (v := .int .i64 0) (by go_simp)
  have r2 := keep hb (a := ⟨w.heap.size + 1, 2, none⟩) (v := .int .i64 0) (by go_simp)
  have r3 := keep hb (a := ⟨w.heap.size + 1, 3, none⟩) (v := .slice none 0 0) (by go_simp)
  have q0 : w2.frozen? ⟨w.heap.size + 1, 0, none⟩ = false := by rw [hb.frozen (p := ⟨w.heap.size + 1, 0, none⟩) (by simp)]; go_simp
  have q1 : w2.frozen? ⟨w.heap.size + 1, 1, none⟩ = false := by rw [hb.frozen (p := ⟨w.heap.size + 1, 1, none⟩) (by simp)]; go_simp
  have q2 : w2.frozen? ⟨w.heap.size + 1, 2, none⟩ = false := by rw [hb.frozen (p := ⟨w.heap.size + 1, 2, none⟩) (by simp)]; go_simp
  have q3 : w2.frozen? ⟨w.heap.size + 1, 3, none⟩ = false := by rw [hb.frozen (p := ⟨w.heap.size + 1, 3, none⟩) (by simp)]; go_simp
  clear ho hb
  go_wp2_with fail
  refine bodyPost_ret (v := .agg #[.int .i64 base, .int .i64 next, .int .i64 mark, .slice a' n cap']) (by simp [results, Try.results89, go_sem, r0, r1, r2, r3]) rfl ?_
  refine ⟨a', cap', by rw [HBS.out, HNX.out, HMK.out, HN.out], ?_, ?_⟩
  · have h0 := HO.out
    rw [HN.out] at h0 ⊢
    have hlt : ∀ k, (Value.slice a' t.ents.length cap').ownBlock = some k → w.heap.size + 2 ≤ k := fun k hk => by
      have := (h0.lt k hk).1
      simp at this
      omega
    have h1 : OwnE w2 w.heap.size (.slice a' t.ents.length cap') t.ents := ⟨h0.1, h0.2.elim Or.inl (fun ⟨g, cp, cur, hv, hg, r⟩ => Or.inr ⟨g, cp, cur, hv, by simp at hg; omega, r⟩)⟩
    have s1 : ∀ (W : World) (b o : Nat) (u : Value), b < w.heap.size + 2 → OwnE W w.heap.size (.slice a' t.ents.length cap') t.ents → OwnE (W.setCell ⟨b, o, none⟩ u) w.heap.size (.slice a' t.ents.length cap') t.ents := fun W b o u hb h =>
      ownsRow_setCell_other h (fun e => by have := hlt _ e; simp at this; omega) u
    exact s1 _ _ _ _ (by omega) (s1 _ _ _ _ (by omega) (s1 _ _ _ _ (by omega) (s1 _ _ _ _ (by omega) (s1 _ _ _ _ (by omega) h1))))
  · have h0 : Below w.heap.size w w2 := (((Below.refl _ _).alloc (Nat.le_refl _) _).alloc (by simp) _).trans (HB.out.mono (by simp; omega))
    exact ((((h0.setCell (p := ⟨w.heap.size, 3, none⟩) (Nat.le_refl _) _).setCell (p := ⟨w.heap.size + 1, 0, none⟩) (Nat.le_succ _) _).setCell (p := ⟨w.heap.size + 1, 1, none⟩) (Nat.le_succ _) _).setCell (p := ⟨w.heap.size + 1, 2, none⟩) (Nat.le_succ _) _).setCell (p := ⟨w.heap.size + 1, 3, none⟩) (Nat.le_succ _) _
end Go.Proofs.Ytblgmjbajnkcdab
/-
  append onto an own row, whether or not anything is appended. No program in sight.
-/
namespace Go.Proofs.Ytblgmjbajnkcdab
open Go.RowKit

/-- append onto an own row: whether or not anything lies there. -/
theorem wpList_append_own_any {P : Program} (w : World) {ops : Array Oper} {rest : List Oper} {o : Oper} {a : Act} {Q : Exit → Act → World → Prop} (hgd : o.guard = none) (s x : Operand) (t : TypeId)
    (ho : o.op = .call { callee := .builtin .append, args := #[s, x], argTypes := #[t, t] })
    (base : Nat) (e : TypeId) (i : TypeInfo) (z : Value) (size bytes : Nat) (ht : P.underlying t = some (.slice e)) (hi : P.info? e = some i) (hz : i.zero = some z)
    (hsize : i.size = size) (hby : i.bytes = bytes) (hzs : z.cells.size = size) (hsz : 0 < size)
    (v : Value) (n : Nat) (xs : List Value) (hs : a.eval s = v) (hown : w.ownsRow base e size v n xs)
    (ao : Option Addr) (m c : Nat) (news : List Value) (hx : a.eval x = .slice ao m c) (hl : news.length = m * size) (hnone : ao = none → m = 0 ∧ c = 0)
    (hnews : ∀ ad, ao = some ad → ∀ j u, news[j]? = some u → w.cell? (ad.add j) = some u) (h1 : ∀ u ∈ news, u.oneCell' = true)
    (h63 : n + m ≤ maxLen) (hbytes : (n + m) * bytes ≤ 140737488355328) (hbase : base ≤ w.heap.size)
    (h : ∀ v' w', w'.ownsRow base e size v' (n + m) (xs ++ news) → w.grownBy w' v.ownBlock → wpList P ops Q rest (a.put o.dst v') w') : wpList P ops Q (o :: rest) a w := by
  cases ao with
  | some ad => exact wpList_append_own w hgd s x t ho base e i z size bytes ht hi hz hsize hby hzs hsz v n xs hs hown ad m c news hx hl (hnews ad rfl) h1 h63 hbytes hbase fun v' w' h2 h3 _ => h v' w' h2 h3
  | none =>
    obtain ⟨rfl, rfl⟩ := hnone rfl
    have hn : news = [] := List.eq_nil_of_length_eq_zero (by simpa using hl)
    subst hn
    exact wpList_append_own_none hgd s x t ho base e i size ht hi v n xs hs hown hx (h v w (by simpa using hown) (World.grownBy.refl _ _))

end Go.Proofs.Ytblgmjbajnkcdab
/-
  '==' and '!=' of two entries. No condition.
-/
namespace Go.Proofs.Ytblgmjbajnkcdab
open Go.RowKit

def eqEnt (x y : Ent) : Bool := x.off == y.off && (x.id == y.id && (x.key.toList == y.key.toList && x.body.toList == y.body.toList))

theorem ent_fields : Try.prog.underlying 29 = some (.struct (Try.prog.fieldsOf 29)) := by kernel_rfl
theorem ent_held : Try.prog.stoodInHeld 29 = false := by kernel_rfl
theorem ent_guard : Try.prog.eqGuardType Try.prog.depth 29 = false := by kernel_rfl

theorem ent_equal (x y : Ent) (w : World) : (Op.equalIn 10000 29 (.agg #[.int .i64 x.off, .int .i64 x.id, .string x.key, .string x.body]) (.agg #[.int .i64 y.off, .int .i64 y.id, .string y.key, .string y.body])).run Try.prog w = .ok (eqEnt x y) w := by
  have u3 := Try.underlying3
  have a3 := Try.isAgg3
  have z3 := Try.sizeOf3
  have u9 := Try.underlying9
  have a9 := Try.isAgg9
  have z9 := Try.sizeOf9
  rw [show (10000 : Nat) = 9999 + 1 from rfl, run_equalIn_agg w 9999 _ _ _ ent_fields ent_held]
  simp only [Program.fieldsOf, Try.underlying29]
  go_simp
  by_cases h1 : x.off = y.off <;> by_cases h2 : x.id = y.id <;> by_cases h3 : x.key.toList = y.key.toList <;> by_cases h4 : x.body.toList = y.body.toList <;> simp [h1, h2, h3, h4, eqEnt]

theorem ent_eql (x y : Ent) (w : World) : (binOp .eql 29 (.agg #[.int .i64 x.off, .int .i64 x.id, .string x.key, .string x.body]) (.agg #[.int .i64 y.off, .int .i64 y.id, .string y.key, .string y.body])).run Try.prog w = .ok (.bool (eqEnt x y)) w := by
  rw [run_eql_struct, ent_equal]; rfl
theorem ent_neq (x y : Ent) (w : World) : (binOp .neq 29 (.agg #[.int .i64 x.off, .int .i64 x.id, .string x.key, .string x.body]) (.agg #[.int .i64 y.off, .int .i64 y.id, .string y.key, .string y.body])).run Try.prog w = .ok (.bool (!eqEnt x y)) w := by
  rw [run_neq_struct, ent_equal]; rfl
theorem ent_eqGuard (op : BinOp) (a b : Operand) (x y : Ent) (w : World) : (eqGuard op 29 a b (.agg #[.int .i64 x.off, .int .i64 x.id, .string x.key, .string x.body]) (.agg #[.int .i64 y.off, .int .i64 y.id, .string y.key, .string y.body])).run Try.prog w = .ok () w :=
  run_eqGuard_agg w op _ a b _ _ ent_guard

end Go.Proofs.Ytblgmjbajnkcdab
/-
  The document's comparison of two lists of entries; slices.Equal at entries; the two Sames. No condition but that the slices read.
-/
namespace Go.Proofs.Ytblgmjbajnkcdab
open Go.RowKit

theorem eqEnt_iff (x y : Ent) : eqEnt x y = true ↔ x = y := by
  obtain ⟨a, b, c, d⟩ := x
  obtain ⟨a', b', c', d'⟩ := y
  have hb : ∀ u v : ByteArray, u.toList = v.toList ↔ u = v := fun u v => by
    rw [ByteArray.toList_eq, ByteArray.toList_eq]
    constructor
    · intro h
      have := Array.toList_inj.1 h
      cases u; cases v; simp_all
    · rintro rfl; rfl
  simp [eqEnt, hb]

def sameE (l l' : List Ent) : Bool := decide (l.length = l'.length) && (List.range l.length).all fun i => eqEnt (l.getD i default) (l'.getD i default)
theorem sameE_iff (l l' : List Ent) : sameE l l' = true ↔ l = l' := by
  simp only [sameE, Bool.and_eq_true, decide_eq_true_eq, List.all_eq_true, List.mem_range]
  constructor
  · rintro ⟨h1, h2⟩
    apply List.ext_getElem h1
    intro i hi hi'
    have := (eqEnt_iff _ _).1 (h2 i hi)
    simpa [List.getD, hi, hi'] using this
  · rintro rfl
    exact ⟨rfl, fun i _ => (eqEnt_iff _ _).2 rfl⟩
theorem sameE_len {l l' : List Ent} (h : l.length ≠ l'.length) : sameE l l' = false := by simp [sameE, h]
theorem sameE_at {l l' : List Ent} {k : Nat} (h : eqEnt (l.getD k default) (l'.getD k default) = false) : sameE l l' = false := by
  cases e : sameE l l' with
  | false => rfl
  | true =>
    rw [(sameE_iff _ _).1 e] at h
    rw [(eqEnt_iff _ _).2 rfl] at h
    cases h
theorem sameE_all {l l' : List Ent} (hl : l.length = l'.length) (h : ∀ i, i < l.length → eqEnt (l.getD i default) (l'.getD i default) = true) : sameE l l' = true := by
  simp only [sameE, Bool.and_eq_true, decide_eq_true_eq, List.all_eq_true, List.mem_range]
  exact ⟨hl, h⟩

set_option maxHeartbeats 2000000 in
theorem sameEnts_some (a a' : Option Addr) (cap cap' n : Nat) (l l' : List Ent) (w : World) (hn : n = l.length) (hn2 : n = l'.length) (hcap : n ≤ cap) (hm : cap ≤ 9223372036854775807) (hcap' : n ≤ cap')
    (hc : 0 < n → ∃ b off, a = some ⟨b, off, none⟩ ∧ EntsAt w b off l) (hc' : 0 < n → ∃ b off, a' = some ⟨b, off, none⟩ ∧ EntsAt w b off l') :
    Calls Try.prog 49 #[.slice a n cap, .slice a' n cap'] w fun e w' => e = .returned (.bool (sameE l l')) ∧ Below w.heap.size w w' := by
  have HC := Lib.hid hc
  have HC' := Lib.hid hc'
  have HN := Lib.hid hn
  have HN2 := Lib.hid hn2
  obtain ⟨z, hz⟩ : ∃ z, z = sameE l l' := ⟨_, rfl⟩
  rw [← hz]
  have HZ := Lib.hid hz
  clear hn hn2 hc hc' hz
  have nn : ((n : Int) != (n : Int)) = false := by simp
  have hn' : (n : Int) ≤ 9223372036854775807 := by omega
  have hE := ent_neq
  have hG := ent_eqGuard
  go_enter Try.func49, Try.ntmps49
  go_wp2_with fail
  go_loopg [5] n (fun g i wr => ∃ k : Nat, k ≤ n ∧ g = n - k ∧ i = .int .i64 (k : Int) ∧ Hid (∀ j, j < k → eqEnt (l.getD j default) (l'.getD j default) = true) ∧ Hid (Below w.heap.size w wr))
  case atStart => exact ⟨0, Nat.zero_le _, rfl, rfl, (fun j hj => absurd hj (Nat.not_lt_zero _)), Below.refl _ _⟩
  case round =>
    obtain ⟨k, hk, rfl, rfl, hall, hb⟩ := hrel
    by_cases hlt : k < n
    · have hk0 : (0 : Int) ≤ (k : Int) := by omega
      have hk1 : (k : Int) < (n : Int) := by omega
      obtain ⟨b, off, ha, h1⟩ := HC.out (by omega)
      obtain ⟨b', off', ha', h1'⟩ := HC'.out (by omega)
      subst ha ha'
      have cc := h1 k (by rw [← HN.out]; exact hlt)
      have cc' := h1' k (by rw [← HN2.out]; exact hlt)
      clear h1 h1'
      obtain ⟨x, hx⟩ : ∃ x, x = l.getD k default := ⟨_, rfl⟩
      obtain ⟨y, hy⟩ : ∃ y, y = l'.getD k default := ⟨_, rfl⟩
      rw [← hx] at cc
      rw [← hy] at cc'
      have HX := Lib.hid hx
      have HY := Lib.hid hy
      have c0 := keep hb.out cc.1.1.1
      have c1 := keep hb.out cc.1.1.2
      have c2 := keep hb.out cc.1.2
      have c3 := keep hb.out cc.2
      have d0 := keep hb.out cc'.1.1.1
      have d1 := keep hb.out cc'.1.1.2
      have d2 := keep hb.out cc'.1.2
      have d3 := keep hb.out cc'.2
      have hb2 := hb.out
      clear hx hy cc cc'
      obtain ⟨q, hq⟩ : ∃ q, q = eqEnt x y := ⟨_, rfl⟩
      have hq' := hq.symm
      have HQ := Lib.hid hq
      clear hq
      cases q
      all_goals
        go_wp2_with fail
        refine wp_region_class (fun w' => ((((w'.cell? ⟨b, off + k * 4, none⟩ = some (.int .i64 x.off) ∧ w'.cell? ⟨b, off + k * 4 + 1, none⟩ = some (.int .i64 x.id)) ∧ w'.cell? ⟨b, off + k * 4 + 2, none⟩ = some (.string x.key)) ∧ w'.cell? ⟨b, off + k * 4 + 3, none⟩ = some (.string x.body)) ∧
          (((w'.cell? ⟨b', off' + k * 4, none⟩ = some (.int .i64 y.off) ∧ w'.cell? ⟨b', off' + k * 4 + 1, none⟩ = some (.int .i64 y.id)) ∧ w'.cell? ⟨b', off' + k * 4 + 2, none⟩ = some (.string y.key)) ∧ w'.cell? ⟨b', off' + k * 4 + 3, none⟩ = some (.string y.body))) ∧ Below w.heap.size w w') (by kernel_rfl) (by kernel_rfl)
          ⟨⟨⟨⟨⟨by simpa using c0, by simpa using c1⟩, by simpa using c2⟩, by simpa using c3⟩, ⟨⟨by simpa using d0, by simpa using d1⟩, by simpa using d2⟩, by simpa using d3⟩, hb2.drew⟩ ?_
        repeat
          with_reducible refine wpQuiet_step (fun K hK => ?_)
          first
            | refine quiet_not (by rfl) (hK _ ?_)
            | refine quiet_any (by rfl) ?_
              apply Exists.intro
              refine ⟨fun wq hq => ?_, hK _ ?_⟩
              · obtain ⟨⟨⟨⟨⟨k0, k1⟩, k2⟩, k3⟩, ⟨⟨m0, m1⟩, m2⟩, m3⟩, kb⟩ := hq
                go_simp
                first
                  | done
                  | (with_reducible rfl)
                  | (fail)
          clear hK K
          simp only [Act.put, List.setIfInBounds_toArray, List.set_cons_zero, List.set_cons_succ]
        refine wpQuiet_nil ?_
        intro wq hq
        have hbq := Lib.hid hq.2
        clear hq hb2 c0 c1 c2 c3 d0 d1 d2 d3
        go_wp2_with fail
      · go_ret
        refine ⟨?_, hbq.out⟩
        rw [HZ.out, sameE_at (k := k) (by rw [← HX.out, ← HY.out]; exact HQ.out.symm)]
        rfl
      · go_roundg (n - (k + 1))
        case measure => omega
        case rel =>
          refine ⟨k + 1, by omega, rfl, by go_num, fun j hj => ?_, hbq⟩
          by_cases hjk : j < k
          · exact hall.out j hjk
          · obtain rfl : j = k := by omega
            rw [← HX.out, ← HY.out]; exact HQ.out.symm
    · obtain rfl : k = n := by omega
      have hlt' : ¬ (k : Int) < (k : Int) := by omega
      go_wp2_with fail
      go_ret
      refine ⟨?_, hb.out⟩
      rw [HZ.out, sameE_all (by rw [← HN.out, ← HN2.out]) (by rw [← HN.out]; exact hall.out)]
      rfl

theorem sameEnts_len (a a' : Option Addr) (n n' cap cap' : Nat) (w : World) (h : n ≠ n') :
    Calls Try.prog 49 #[.slice a n cap, .slice a' n' cap'] w fun e w' => e = .returned (.bool false) ∧ Below w.heap.size w w' := by
  have hd : ((n : Int) != (n' : Int)) = true := by simp; omega
  go_enter Try.func49, Try.ntmps49
  go_wp2_with fail
  go_ret
  exact ⟨rfl, Below.refl _ _⟩

theorem sameEnts_any {v v' : Value} {l l' : List Ent} {w : World} (h : SliceR w v 4 entCells l) (h' : SliceR w v' 4 entCells l') :
    Calls Try.prog 49 #[v, v'] w fun e w' => e = .returned (.bool (sameE l l')) ∧ Below w.heap.size w w' := by
  obtain ⟨a, cap, hv, _⟩ := id h
  obtain ⟨a', cap', hv', _⟩ := id h'
  subst hv hv'
  obtain ⟨⟨_, hcap⟩, ⟨hmax, _⟩, hd⟩ := h.ents
  obtain ⟨⟨_, hcap'⟩, ⟨_, _⟩, hd'⟩ := h'.ents
  unfold maxLen at hmax
  by_cases hl : l.length = l'.length
  · rw [← hl] at hd' hcap' ⊢
    exact sameEnts_some a a' cap cap' _ l l' w rfl hl hcap hmax hcap' hd hd'
  · rw [sameE_len hl]
    exact sameEnts_len _ _ _ _ _ _ w hl

set_option maxHeartbeats 2000000 in
theorem equalEnts_some (a a' : Option Addr) (cap cap' n : Nat) (l l' : List Ent) (w : World) (hn : n = l.length) (hn2 : n = l'.length) (hcap : n ≤ cap) (hm : cap ≤ 9223372036854775807) (hcap' : n ≤ cap')
    (hc : 0 < n → ∃ b off, a = some ⟨b, off, none⟩ ∧ EntsAt w b off l) (hc' : 0 < n → ∃ b off, a' = some ⟨b, off, none⟩ ∧ EntsAt w b off l') :
    Calls Try.prog 61 #[.slice a n cap, .slice a' n cap'] w fun e w' => e = .returned (.bool (sameE l l')) ∧ Below w.heap.size w w' := by
  have HC := Lib.hid hc
  have HC' := Lib.hid hc'
  have HN := Lib.hid hn
  have HN2 := Lib.hid hn2
  obtain ⟨z, hz⟩ : ∃ z, z = sameE l l' := ⟨_, rfl⟩
  rw [← hz]
  have HZ := Lib.hid hz
  clear hn hn2 hc hc' hz
  have nn : ((n : Int) != (n : Int)) = false := by simp
  have hn' : (n : Int) ≤ 9223372036854775807 := by omega
  have hE := ent_neq
  have hG := ent_eqGuard
  go_enter Try.func61, Try.ntmps61
  go_wp2_with fail
  go_loopg [5, 13] n (fun g _ i wr => ∃ k : Nat, k ≤ n ∧ g = n - k ∧ i = .int .i64 (k : Int) ∧ Hid (∀ j, j < k → eqEnt (l.getD j default) (l'.getD j default) = true) ∧ Hid (Below w.heap.size w wr))
  case atStart => exact ⟨0, Nat.zero_le _, rfl, rfl, (fun j hj => absurd hj (Nat.not_lt_zero _)), Below.refl _ _⟩
  case round =>
    obtain ⟨k, hk, rfl, rfl, hall, hb⟩ := hrel
    by_cases hlt : k < n
    · have hk0 : (0 : Int) ≤ (k : Int) := by omega
      have hk1 : (k : Int) < (n : Int) := by omega
      obtain ⟨b, off, ha, h1⟩ := HC.out (by omega)
      obtain ⟨b', off', ha', h1'⟩ := HC'.out (by omega)
      subst ha ha'
      have cc := h1 k (by rw [← HN.out]; exact hlt)
      have cc' := h1' k (by rw [← HN2.out]; exact hlt)
      clear h1 h1'
      obtain ⟨x, hx⟩ : ∃ x, x = l.getD k default := ⟨_, rfl⟩
      obtain ⟨y, hy⟩ : ∃ y, y = l'.getD k default := ⟨_, rfl⟩
      rw [← hx] at cc
      rw [← hy] at cc'
      have HX := Lib.hid hx
      have HY := Lib.hid hy
      have c0 := keep hb.out cc.1.1.1
      have c1 := keep hb.out cc.1.1.2
      have c2 := keep hb.out cc.1.2
      have c3 := keep hb.out cc.2
      have d0 := keep hb.out cc'.1.1.1
      have d1 := keep hb.out cc'.1.1.2
      have d2 := keep hb.out cc'.1.2
      have d3 := keep hb.out cc'.2
      have hb2 := hb.out
      clear hx hy cc cc'
      obtain ⟨q, hq⟩ : ∃ q, q = eqEnt x y := ⟨_, rfl⟩
      have hq' := hq.symm
      have HQ := Lib.hid hq
      clear hq
      cases q
      all_goals
        go_wp2_with fail
        refine wp_region_class (fun w' => ((((w'.cell? ⟨b, off + k * 4, none⟩ = some (.int .i64 x.off) ∧ w'.cell? ⟨b, off + k * 4 + 1, none⟩ = some (.int .i64 x.id)) ∧ w'.cell? ⟨b, off + k * 4 + 2, none⟩ = some (.string x.key)) ∧ w'.cell? ⟨b, off + k * 4 + 3, none⟩ = some (.string x.body)) ∧
          (((w'.cell? ⟨b', off' + k * 4, none⟩ = some (.int .i64 y.off) ∧ w'.cell? ⟨b', off' + k * 4 + 1, none⟩ = some (.int .i64 y.id)) ∧ w'.cell? ⟨b', off' + k * 4 + 2, none⟩ = some (.string y.key)) ∧ w'.cell? ⟨b', off' + k * 4 + 3, none⟩ = some (.string y.body))) ∧ Below w.heap.size w w') (by kernel_rfl) (by kernel_rfl)
          ⟨⟨⟨⟨⟨by simpa using c0, by simpa using c1⟩, by simpa using c2⟩, by simpa using c3⟩, ⟨⟨by simpa using d0, by simpa using d1⟩, by simpa using d2⟩, by simpa using d3⟩, hb2.drew⟩ ?_
        repeat
          with_reducible refine wpQuiet_step (fun K hK => ?_)
          first
            | refine quiet_not (by rfl) (hK _ ?_)
            | refine quiet_any (by rfl) ?_
              apply Exists.intro
              refine ⟨fun wq hq => ?_, hK _ ?_⟩
              · obtain ⟨⟨⟨⟨⟨k0, k1⟩, k2⟩, k3⟩, ⟨⟨m0, m1⟩, m2⟩, m3⟩, kb⟩ := hq
                go_simp
                first
                  | done
                  | (with_reducible rfl)
                  | (fail)
          clear hK K
          simp only [Act.put, List.setIfInBounds_toArray, List.set_cons_zero, List.set_cons_succ]
        refine wpQuiet_nil ?_
        intro wq hq
        have hbq := Lib.hid hq.2
        clear hq hb2 c0 c1 c2 c3 d0 d1 d2 d3
        go_wp2_with fail
      · go_ret
        refine ⟨?_, hbq.out⟩
        rw [HZ.out, sameE_at (k := k) (by rw [← HX.out, ← HY.out]; exact HQ.out.symm)]
        rfl
      · go_roundg (n - (k + 1))
        case measure => omega
        case rel =>
          refine ⟨k + 1, by omega, rfl, by go_num, fun j hj => ?_, hbq⟩
          by_cases hjk : j < k
          · exact hall.out j hjk
          · obtain rfl : j = k := by omega
            rw [← HX.out, ← HY.out]; exact HQ.out.symm
    · obtain rfl : k = n := by omega
      have hlt' : ¬ (k : Int) < (k : Int) := by omega
      go_wp2_with fail
      go_ret
      refine ⟨?_, hb.out⟩
      rw [HZ.out, sameE_all (by rw [← HN.out, ← HN2.out]) (by rw [← HN.out]; exact hall.out)]
      rfl

theorem equalEnts_len (a a' : Option Addr) (n n' cap cap' : Nat) (w : World) (h : n ≠ n') :
    Calls Try.prog 61 #[.slice a n cap, .slice a' n' cap'] w fun e w' => e = .returned (.bool false) ∧ Below w.heap.size w w' := by
  have hd : ((n : Int) != (n' : Int)) = true := by simp; omega
  go_enter Try.func61, Try.ntmps61
  go_wp2_with fail
  go_ret
  exact ⟨rfl, Below.refl _ _⟩

theorem equalEnts_any {v v' : Value} {l l' : List Ent} {w : World} (h : SliceR w v 4 entCells l) (h' : SliceR w v' 4 entCells l') :
    Calls Try.prog 61 #[v, v'] w fun e w' => e = .returned (.bool (sameE l l')) ∧ Below w.heap.size w w' := by
  obtain ⟨a, cap, hv, _⟩ := id h
  obtain ⟨a', cap', hv', _⟩ := id h'
  subst hv hv'
  obtain ⟨⟨_, hcap⟩, ⟨hmax, _⟩, hd⟩ := h.ents
  obtain ⟨⟨_, hcap'⟩, ⟨_, _⟩, hd'⟩ := h'.ents
  unfold maxLen at hmax
  by_cases hl : l.length = l'.length
  · rw [← hl] at hd' hcap' ⊢
    exact equalEnts_some a a' cap cap' _ l l' w rfl hl hcap hmax hcap' hd hd'
  · rw [sameE_len hl]
    exact equalEnts_len _ _ _ _ _ _ w hl

end Go.Proofs.Ytblgmjbajnkcdab
/-
  The document's Same and topic.Same. No condition but that the topics read.
-/
namespace Go.Proofs.Ytblgmjbajnkcdab
open Go.RowKit

def sameT (t t' : Top) : Bool := t.base == t'.base && (t.next == t'.next && (t.mark == t'.mark && sameE t.ents t'.ents))
theorem sameT_iff (t t' : Top) : sameT t t' = true ↔ t = t' := by
  obtain ⟨a, b, c, d⟩ := t
  obtain ⟨a', b', c', d'⟩ := t'
  simp [sameT, sameE_iff]

set_option maxRecDepth 100000 in
theorem refSameT_any {v v' : Value} {t t' : Top} {w : World} (h : TopR w v t) (h' : TopR w v' t') :
    Calls Try.prog 56 #[v, v'] w fun e w' => e = .returned (.bool (sameT t t')) ∧ Below w.heap.size w w' := by
  obtain ⟨a, cap, rfl, hs⟩ := h
  obtain ⟨a', cap', rfl, hs'⟩ := h'
  have hb0 : ∀ o o' : Obj, Below w.heap.size w ((w.alloc o).alloc o') := fun o o' => ((Below.refl _ _).alloc (Nat.le_refl _) o).alloc (by simp) o'
  have K := fun (o o' : Obj) => sameEnts_any (hs.below entCells_len (hb0 o o')) (hs'.below entCells_len (hb0 o o'))
  have HK := Lib.hid K
  have HB0 := Lib.hid hb0
  obtain ⟨z, hz⟩ : ∃ z, z = sameT t t' := ⟨_, rfl⟩
  obtain ⟨q, hq⟩ : ∃ q, q = sameE t.ents t'.ents := ⟨_, rfl⟩
  have hz2 : z = (t.base == t'.base && (t.next == t'.next && (t.mark == t'.mark && q))) := by rw [hz, hq]; rfl
  rw [← hz]
  rw [← hq] at HK
  have HZ := Lib.hid hz2
  obtain ⟨base, hbase⟩ : ∃ base, base = t.base := ⟨_, rfl⟩
  obtain ⟨next, hnext⟩ : ∃ next, next = t.next := ⟨_, rfl⟩
  obtain ⟨mark, hmark⟩ : ∃ mark, mark = t.mark := ⟨_, rfl⟩
  obtain ⟨base', hbase'⟩ : ∃ base', base' = t'.base := ⟨_, rfl⟩
  obtain ⟨next', hnext'⟩ : ∃ next', next' = t'.next := ⟨_, rfl⟩
  obtain ⟨mark', hmark'⟩ : ∃ mark', mark' = t'.mark := ⟨_, rfl⟩
  rw [← hbase, ← hnext, ← hmark, ← hbase', ← hnext', ← hmark'] at HZ ⊢
  clear hz hq hz2 hs hs' K hb0 hbase hnext hmark hbase' hnext' hmark'
  by_cases h1 : base = base'
  · by_cases h2 : next = next'
    · by_cases h3 : mark = mark'
      · subst h1 h2 h3
        have e1 : (base == base) = true := by simp
        have e2 : (next == next) = true := by simp
        have e3 : (mark == mark) = true := by simp
        go_enter Try.func56, Try.ntmps56
        go_wp2_with fail
        refine (HK.out _ _).mono ?_
        rintro e w2 ⟨rfl, hb⟩
        have HB2 := Lib.hid ((HB0.out _ _).trans (hb.mono (by simp; omega)))
        clear hb
        go_wp2_with fail
        go_ret
        refine ⟨?_, HB2.out⟩
        rw [HZ.out, e1, e2, e3]
        rfl
      · have e3 : (mark == mark') = false := by simpa using h3
        have e1 : (base == base') = true := by simpa using h1
        have e2 : (next == next') = true := by simpa using h2
        clear h1 h2 h3
        go_enter Try.func56, Try.ntmps56
        go_wp2_with fail
        go_ret
        refine ⟨?_, HB0.out _ _⟩
        rw [HZ.out, e1, e2, e3]
        rfl
    · have e1 : (base == base') = true := by simpa using h1
      have e2 : (next == next') = false := by simpa using h2
      clear h1 h2
      go_enter Try.func56, Try.ntmps56
      go_wp2_with fail
      go_ret
      refine ⟨?_, HB0.out _ _⟩
      rw [HZ.out, e1, e2]
      rfl
  · have e1 : (base == base') = false := by simpa using h1
    clear h1
    go_enter Try.func56, Try.ntmps56
    go_wp2_with fail
    go_ret
    refine ⟨?_, HB0.out _ _⟩
    rw [HZ.out, e1]
    rfl

set_option maxRecDepth 100000 in
theorem topSame_any {v v' : Value} {t t' : Top} {w : World} (h : TopR w v t) (h' : TopR w v' t') :
    Calls Try.prog 65 #[v, v'] w fun e w' => e = .returned (.bool (sameT t t')) ∧ Below w.heap.size w w' := by
  obtain ⟨a, cap, rfl, hs⟩ := h
  obtain ⟨a', cap', rfl, hs'⟩ := h'
  have hb0 : ∀ o o' : Obj, Below w.heap.size w ((w.alloc o).alloc o') := fun o o' => ((Below.refl _ _).alloc (Nat.le_refl _) o).alloc (by simp) o'
  have K := fun (o o' : Obj) => equalEnts_any (hs.below entCells_len (hb0 o o')) (hs'.below entCells_len (hb0 o o'))
  have HK := Lib.hid K
  have HB0 := Lib.hid hb0
  obtain ⟨z, hz⟩ : ∃ z, z = sameT t t' := ⟨_, rfl⟩
  obtain ⟨q, hq⟩ : ∃ q, q = sameE t.ents t'.ents := ⟨_, rfl⟩
  have hz2 : z = (t.base == t'.base && (t.next == t'.next && (t.mark == t'.mark && q))) := by rw [hz, hq]; rfl
  rw [← hz]
  rw [← hq] at HK
  have HZ := Lib.hid hz2
  obtain ⟨base, hbase⟩ : ∃ base, base = t.base := ⟨_, rfl⟩
  obtain ⟨next, hnext⟩ : ∃ next, next = t.next := ⟨_, rfl⟩
  obtain ⟨mark, hmark⟩ : ∃ mark, mark = t.mark := ⟨_, rfl⟩
  obtain ⟨base', hbase'⟩ : ∃ base', base' = t'.base := ⟨_, rfl⟩
  obtain ⟨next', hnext'⟩ : ∃ next', next' = t'.next := ⟨_, rfl⟩
  obtain ⟨mark', hmark'⟩ : ∃ mark', mark' = t'.mark := ⟨_, rfl⟩
  rw [← hbase, ← hnext, ← hmark, ← hbase', ← hnext', ← hmark'] at HZ ⊢
  clear hz hq hz2 hs hs' K hb0 hbase hnext hmark hbase' hnext' hmark'
  by_cases h1 : base = base'
  · by_cases h2 : next = next'
    · by_cases h3 : mark = mark'
      · subst h1 h2 h3
        have e1 : (base == base) = true := by simp
        have e2 : (next == next) = true := by simp
        have e3 : (mark == mark) = true := by simp
        go_enter Try.func65, Try.ntmps65
        go_wp2_with fail
        refine (HK.out _ _).mono ?_
        rintro e w2 ⟨rfl, hb⟩
        have HB2 := Lib.hid ((HB0.out _ _).trans (hb.mono (by simp; omega)))
        clear hb
        go_wp2_with fail
        go_ret
        refine ⟨?_, HB2.out⟩
        rw [HZ.out, e1, e2, e3]
        rfl
      · have e3 : (mark == mark') = false := by simpa using h3
        have e1 : (base == base') = true := by simpa using h1
        have e2 : (next == next') = true := by simpa using h2
        clear h1 h2 h3
        go_enter Try.func65, Try.ntmps65
        go_wp2_with fail
        go_ret
        refine ⟨?_, HB0.out _ _⟩
        rw [HZ.out, e1, e2, e3]
        rfl
    · have e1 : (base == base') = true := by simpa using h1
      have e2 : (next == next') = false := by simpa using h2
      clear h1 h2
      go_enter Try.func65, Try.ntmps65
      go_wp2_with fail
      go_ret
      refine ⟨?_, HB0.out _ _⟩
      rw [HZ.out, e1, e2]
      rfl
  · have e1 : (base == base') = false := by simpa using h1
    clear h1
    go_enter Try.func65, Try.ntmps65
    go_wp2_with fail
    go_ret
    refine ⟨?_, HB0.out _ _⟩
    rw [HZ.out, e1]
    rfl

end Go.Proofs.Ytblgmjbajnkcdab
