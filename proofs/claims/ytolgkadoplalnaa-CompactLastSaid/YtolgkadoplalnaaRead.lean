/-
  How arguments read: from the form's reading to lists and numbers. No program in sight.
-/
import Derived.WalkKit
import Derived.ProofKit
import Derived.Deep.Slices
import Derived.Laws.AppendOwnNone
import Derived.SizedLaws
namespace Go.Proofs.Ytolgkadoplalnaa
open Go.RowKit Go.Deep Go.WideShapes Go.ChangeShapes

/-- These cells read at this type, and nothing that is met takes more than the form's own reach. -/
def Reads (P : Program) (w : World) (t : TypeId) (cs : List Value) : Prop :=
  ∃ (H : Type) (enc : TypeId × Value → H) (sp : Nat → Bool) (fuel : Nat) (x : DataW H × List MemPlace), DataW.trod enc P w 0 sp true fuel t cs = some x ∧ ∀ n ∈ x.1.weights P t, n ≤ reachBytes

theorem reads_of_trod {H : Type} {enc : TypeId × Value → H} {P : Program} {w : World} {sp : Nat → Bool} {t : TypeId} {v : Value} {d : DataW H} {ps : List MemPlace}
    (h : DataW.Trod enc P w 0 sp true t v d ps) (hw : ∀ n ∈ d.weights P t, n ≤ reachBytes) : Reads P w t v.cells.toList := by
  obtain ⟨fuel, hf⟩ := h
  exact ⟨H, enc, sp, fuel, _, hf, hw⟩

section
variable {P : Program} {w : World} {t e : TypeId} {cs : List Value}

theorem Reads.int {k : IntKind} (h : Reads P w t cs) (ht : P.underlying t = some (.int k)) : ∃ n, cs = [.int k n] ∧ (Lit.int k n).wf = true := by
  obtain ⟨H, enc, sp, fuel, x, hx, _⟩ := h
  obtain ⟨n, h1, _, h3⟩ := DataW.trod_int ht hx
  exact ⟨n, h1, h3⟩

theorem Reads.string (h : Reads P w t cs) (ht : P.underlying t = some .string) : ∃ s : ByteArray, cs = [.string s] ∧ s.size ≤ reachBytes := by
  obtain ⟨H, enc, sp, fuel, x, hx, hw⟩ := h
  obtain ⟨n, h1, h2, h3⟩ := DataW.trod_string ht hx
  refine ⟨n, h1, ?_⟩
  have := hw n.data.toList.length (by rw [h2]; simp [DataW.weights])
  simpa using this

theorem Reads.struct {fs : Array Field} (h : Reads P w t cs) (ht : P.underlying t = some (.struct fs)) :
    cs.length = P.cellsOf t ∧ ∀ (i : Nat) (f : Field), fs[i]? = some f → Reads P w f.type ((cs.drop f.offset).take (P.cellsOf f.type)) := by
  obtain ⟨H, enc, sp, fuel, x, hx, hw⟩ := h
  obtain ⟨xs, n, _, hx', hl, hlen, hf⟩ := DataW.trod_struct ht hx
  refine ⟨hl, fun i f hi => ?_⟩
  have h1 := hf i f hi
  have h2 : i < xs.length := by
    rw [hlen]
    exact (Array.getElem?_eq_some_iff.1 hi).1
  rw [List.getElem?_eq_getElem h2] at h1
  refine ⟨H, enc, sp, n, _, h1, fun k hk => hw k ?_⟩
  rw [hx']
  simp only [DataW.weights, ht]
  exact DataW.weights_mem_each (j := i) (t := f.type) (d := xs[i].1) (by simp [List.getElem?_map, hi]) (by simp [h2]) k hk

theorem weightsAll_mem {H : Type} {e : TypeId} : ∀ {l : List (DataW H)} {d : DataW H}, d ∈ l → ∀ n ∈ d.weights P e, n ∈ DataW.weightsAll P e l
  | x :: l, d, hd, n, hn => by
    simp only [DataW.weightsAll, List.mem_append]
    rcases List.mem_cons.1 hd with rfl | h
    · exact Or.inl hn
    · exact Or.inr (weightsAll_mem h n hn)
  | [], _, hd, _, _ => by simp at hd

theorem addr_add (a : Addr) (i j : Nat) (hs : (a.add i).spot = none) : (a.add i).add j = ⟨a.block, a.off + (i + j), none⟩ := by
  unfold Addr.add at *
  by_cases hi : i = 0 <;> by_cases hj : j = 0 <;> simp_all [Nat.add_assoc]
  · cases a; simp_all
theorem spot_of_cell {w : World} {a : Addr} {v : Value} (h : w.cell? a = some v) : a.spot = none := by
  unfold World.cell? at h
  split at h
  · split at h
    · cases h
    · rename_i hs; simpa using hs
  · cases h

theorem Reads.slice (h : Reads P w t cs) (ht : P.underlying t = some (.slice e)) (hk : 0 < P.cellsOf e) :
    ∃ a n cap, cs = [.slice a n cap] ∧ n ≤ cap ∧ cap ≤ maxLen ∧ (a = none → cap = 0) ∧ n * P.bytesOf e ≤ reachBytes ∧
      (0 < n → ∃ b off, a = some ⟨b, off, none⟩ ∧ ∀ i, i < n → ∃ ds : List Value, ds.length = P.cellsOf e ∧ (∀ j, j < P.cellsOf e → w.cell? ⟨b, off + (i * P.cellsOf e + j), none⟩ = ds[j]?) ∧ Reads P w e ds) := by
  obtain ⟨H, enc, sp, fuel, x, hx, hw⟩ := h
  rcases open_slice ht hx with ⟨h1, _⟩ | ⟨a, len, cap, m, n, D, Pl, h1, hb, hl, hm, hmm, hxx, hx'⟩
  · exact ⟨none, 0, 0, h1, Nat.le_refl _, Nat.zero_le _, fun _ => rfl, by simp, fun h => absurd h (Nat.lt_irrefl _)⟩
  · have hwl : len * P.bytesOf e ≤ reachBytes := by
      have h3 := hw ((((List.range len).map D).length + ((List.range (m - len)).map fun j => D (len + j)).length) * P.bytesOf e) (by rw [hxx]; simp [DataW.weights, ht])
      refine Nat.le_trans ?_ h3
      simp only [List.length_map, List.length_range]
      exact Nat.mul_le_mul_right _ (by omega)
    refine ⟨some a, len, cap, h1, hl, hm, (fun h => by cases h), hwl, fun hn => ?_⟩
    have hle : len ≤ m := by rw [hmm]; split <;> omega
    have key : ∀ i, i < len → ∃ ds : List Value, ds.length = P.cellsOf e ∧ (∀ j, j < P.cellsOf e → w.cell? ((a.add (i * P.cellsOf e)).add j) = ds[j]?) ∧ Reads P w e ds := fun i hi => by
      obtain ⟨ds, h2, h3⟩ := hx' i (by omega)
      obtain ⟨_, h4, h5⟩ := World.cells?_some h2
      refine ⟨ds, h4, h5, ⟨H, enc, sp, n, _, h3, fun k hk => hw k ?_⟩⟩
      rw [hxx]
      simp only [DataW.weights, ht, List.mem_cons, List.mem_append]
      exact Or.inr (Or.inl (weightsAll_mem (List.mem_map.2 ⟨i, List.mem_range.2 hi, rfl⟩) k hk))
    have spot : ∀ i, i < len → (a.add (i * P.cellsOf e)).spot = none := fun i hi => by
      obtain ⟨ds, h4, h5, _⟩ := key i hi
      have h6 := h5 0 hk
      rw [List.getElem?_eq_getElem (by omega)] at h6
      have : (a.add (i * P.cellsOf e)).add 0 = a.add (i * P.cellsOf e) := by simp [Addr.add]
      rw [this] at h6
      exact spot_of_cell h6
    have s0 : a.spot = none := by simpa [Addr.add] using spot 0 hn
    refine ⟨a.block, a.off, by cases a; simp_all, fun i hi => ?_⟩
    obtain ⟨ds, h4, h5, h6⟩ := key i hi
    refine ⟨ds, h4, fun j hj => ?_, h6⟩
    rw [← addr_add a (i * P.cellsOf e) j (spot i hi)]
    exact h5 j hj
end

/-- The slice v reads, in w, as the list l, an element being k cells. -/
def SliceR {α : Type} (w : World) (v : Value) (k : Nat) (cells : α → List Value) (l : List α) : Prop :=
  ∃ a cap, v = .slice a l.length cap ∧ l.length ≤ cap ∧ cap ≤ maxLen ∧ (a = none → cap = 0) ∧
    (0 < l.length → ∃ b off, a = some ⟨b, off, none⟩ ∧ ∀ i (h : i < l.length) j, j < k → w.cell? ⟨b, off + (i * k + j), none⟩ = (cells l[i])[j]?)

theorem Reads.list {α : Type} [Inhabited α] {P : Program} {w : World} {t e : TypeId} {cs : List Value} (k : Nat) (cells : α → List Value) (ok : α → Prop)
    (h : Reads P w t cs) (ht : P.underlying t = some (.slice e)) (hk : P.cellsOf e = k) (hk0 : 0 < k) (parse : ∀ ds, Reads P w e ds → ∃ y, ds = cells y ∧ ok y) :
    ∃ v l, cs = [v] ∧ SliceR w v k cells l ∧ l.length * P.bytesOf e ≤ reachBytes ∧ ∀ y ∈ l, ok y := by
  obtain ⟨a, n, cap, h1, h2, h3, h4, h6, h5⟩ := h.slice ht (by omega)
  by_cases hn : 0 < n
  · obtain ⟨b, off, ha, hd⟩ := h5 hn
    rw [hk] at hd
    obtain ⟨f, hf⟩ := choose_lt (α := α) (p := fun i y => (∀ j, j < k → w.cell? ⟨b, off + (i * k + j), none⟩ = (cells y)[j]?) ∧ ok y) (n := n) (fun i hi => by
      obtain ⟨ds, _, h7, h8⟩ := hd i hi
      obtain ⟨y, rfl, hy⟩ := parse ds h8
      exact ⟨y, h7, hy⟩)
    refine ⟨_, (List.range n).map f, h1, ⟨a, cap, by simp, by simpa using h2, h3, h4, fun _ => ⟨b, off, ha, fun i hi j hj => ?_⟩⟩, by simpa using h6, ?_⟩
    · have hi' : i < n := by simpa using hi
      simpa using (hf i hi').1 j hj
    · intro y hy
      obtain ⟨i, hi, rfl⟩ := List.mem_map.1 hy
      exact (hf i (by simpa using hi)).2
  · obtain rfl : n = 0 := by omega
    exact ⟨_, [], h1, ⟨a, cap, by simp, by simp, h3, h4, fun h => absurd h (by simp)⟩, by simp, by simp⟩

/-- A slice reads in a later world as it did. -/
theorem SliceR.below {α : Type} {w w' : World} {v : Value} {k : Nat} {cells : α → List Value} {l : List α} (h : SliceR w v k cells l) (hc : ∀ y, (cells y).length = k) (hb : Below w.heap.size w w') : SliceR w' v k cells l := by
  obtain ⟨a, cap, h1, h2, h3, h4, h5⟩ := h
  refine ⟨a, cap, h1, h2, h3, h4, fun hl => ?_⟩
  obtain ⟨b, off, ha, hd⟩ := h5 hl
  refine ⟨b, off, ha, fun i hi j hj => ?_⟩
  have := hd i hi j hj
  have hsome : ∃ u, (cells l[i])[j]? = some u := ⟨_, List.getElem?_eq_getElem (by rw [hc]; exact hj)⟩
  obtain ⟨u, hu⟩ := hsome
  rw [hu] at this ⊢
  have hlt := World.block_lt_of_cell? w _ this
  rw [hb.cell hlt]; exact this

/-! Elements laid out flat -/
theorem flat_length {α : Type} {cells : α → List Value} {k : Nat} (hc : ∀ y, (cells y).length = k) : ∀ l : List α, (l.flatMap cells).length = l.length * k
  | [] => by simp
  | y :: l => by rw [List.flatMap_cons, List.length_append, hc, flat_length hc l, List.length_cons, Nat.succ_mul, Nat.add_comm]

theorem flat_get {α : Type} {cells : α → List Value} {k : Nat} (hc : ∀ y, (cells y).length = k) : ∀ (l : List α) (i : Nat) (h : i < l.length) (j : Nat), j < k → (l.flatMap cells)[i * k + j]? = (cells l[i])[j]?
  | [], _, h, _, _ => absurd h (Nat.not_lt_zero _)
  | y :: l, 0, _, j, hj => by
    rw [List.flatMap_cons, Nat.zero_mul, Nat.zero_add, List.getElem?_append_left (by rw [hc]; exact hj)]
    rfl
  | y :: l, i + 1, h, j, hj => by
    rw [List.flatMap_cons, Nat.succ_mul, List.getElem?_append_right (by rw [hc]; omega), hc, show i * k + k + j - k = i * k + j by omega]
    rw [flat_get hc l i (by simpa using h) j hj]
    rfl

/-- The cells of a slice's elements, one by one. -/
theorem SliceR.flat {α : Type} {w : World} {b off n cap k : Nat} {cells : α → List Value} {l : List α} (h : SliceR w (.slice (some ⟨b, off, none⟩) n cap) k cells l) (hc : ∀ y, (cells y).length = k) (hk : 0 < k) :
    ∀ j u, (l.flatMap cells)[j]? = some u → w.cell? ((⟨b, off, none⟩ : Addr).add j) = some u := by
  intro j u hu
  obtain ⟨a, cap', h1, _, _, _, h5⟩ := h
  cases h1
  have hj : j < l.length * k := by
    rw [← flat_length hc l]
    exact (List.getElem?_eq_some_iff.1 hu).1
  have hl : 0 < l.length := by
    rcases Nat.eq_zero_or_pos l.length with h | h
    · rw [h] at hj; omega
    · exact h
  obtain ⟨b', off', ha, hd⟩ := h5 hl
  cases ha
  have hi : j / k < l.length := Nat.div_lt_of_lt_mul (by rw [Nat.mul_comm]; exact hj)
  have hm : j % k < k := Nat.mod_lt _ hk
  have hjj : j / k * k + j % k = j := by rw [Nat.mul_comm]; exact Nat.div_add_mod j k
  have h6 := hd (j / k) hi (j % k) hm
  rw [← flat_get hc l (j / k) hi (j % k) hm, hjj, hu] at h6
  have e : (⟨b, off, none⟩ : Addr).add j = ⟨b, off + j, none⟩ := by
    unfold Addr.add
    by_cases h0 : j = 0
    · simp [h0]
    · simp [h0]
  rw [e]; exact h6

/-- A slice of the call's own, its elements laid out flat, reads as the list. -/
theorem sliceR_of_owns {α : Type} {w : World} {base k : Nat} {e : TypeId} {v : Value} {cells : α → List Value} {l : List α} (hc : ∀ y, (cells y).length = k) (h : w.ownsRow base e k v l.length (l.flatMap cells)) :
    SliceR w v k cells l := by
  obtain ⟨_, h2⟩ := h
  rcases h2 with ⟨hv, hn⟩ | ⟨g, cap, cur, hv, hg, hh, h3, h4, h5, h6⟩
  · exact ⟨none, 0, by rw [hv, hn], by omega, Nat.zero_le _, fun _ => rfl, fun h => by omega⟩
  · refine ⟨_, cap, hv, h3, h4, (fun h => by cases h), fun hl => ⟨g, 0, rfl, fun i hi j hj => ?_⟩⟩
    have h7 : w.cell? ⟨g, 0 + (i * k + j), none⟩ = cur[i * k + j]? := by simp [World.cell?, hh]
    rw [h7, ← flat_get hc l i hi j hj, ← h6, List.getElem?_take]
    have : i * k + j < l.length * k := by
      have h8 : (i + 1) * k ≤ l.length * k := Nat.mul_le_mul_right k hi
      rw [Nat.succ_mul] at h8
      omega
    rw [if_pos this, Array.getElem?_toList]

theorem belowGrown {w w' : World} (hg : w.grownBy w' none) : Below w.heap.size w w' := (Below.refl _ _).grown hg (Nat.le_refl _) (fun k hk => by cases hk)

/-- Stamps. -/
def stCells (x : Int × Int) : List Value := [.int .i64 x.1, .int .i64 x.2]
def stVal (x : Int × Int) : Value := .agg #[.int .i64 x.1, .int .i64 x.2]
def ok64 (n : Int) : Prop := (Lit.int .i64 n).wf = true
def stOk (x : Int × Int) : Prop := ok64 x.1 ∧ ok64 x.2

theorem Reads.stamp {P : Program} {w : World} {t ti : TypeId} {cs : List Value} {f0 f1 : Field} (h : Reads P w t cs) (ht : P.underlying t = some (.struct #[f0, f1])) (hc : P.cellsOf t = 2) (hi : P.underlying ti = some (.int .i64)) (hci : P.cellsOf ti = 1)
    (e0 : f0.type = ti ∧ f0.offset = 0) (e1 : f1.type = ti ∧ f1.offset = 1) : ∃ x, cs = stCells x ∧ stOk x := by
  obtain ⟨hl, hf⟩ := h.struct ht
  rw [hc] at hl
  have r0 := hf 0 f0 rfl
  have r1 := hf 1 f1 rfl
  rw [e0.1, e0.2, hci] at r0
  rw [e1.1, e1.2, hci] at r1
  obtain ⟨a, ha, wa⟩ := r0.int hi
  obtain ⟨b, hb, wb⟩ := r1.int hi
  match cs, hl with
  | [c0, c1], _ =>
    simp at ha hb
    subst ha hb
    exact ⟨(a, b), rfl, wa, wb⟩

theorem open_stamp {P : Program} {w : World} {r : Reach} {base : Nat} {t ti : TypeId} {v : Value} {H : Type} {enc : TypeId × Value → H} {sp : Nat → Bool} {d : DataW H} {ps : List MemPlace} {f0 f1 : Field}
    (hv : Value.okWide P w r base t v) (h : DataW.Trod enc P w 0 sp true t v d ps) (hw : ∀ n ∈ d.weights P t, n ≤ reachBytes) (ht : P.underlying t = some (.struct #[f0, f1])) (hc : P.cellsOf t = 2) (hi : P.underlying ti = some (.int .i64)) (hci : P.cellsOf ti = 1)
    (e0 : f0.type = ti ∧ f0.offset = 0) (e1 : f1.type = ti ∧ f1.offset = 1) : ∃ x, v = stVal x ∧ stOk x := by
  obtain ⟨cs, rfl, _⟩ := okWide_struct ht hv
  obtain ⟨x, hx, ox⟩ := (reads_of_trod h hw).stamp ht hc hi hci e0 e1
  refine ⟨x, ?_, ox⟩
  have : cs = (stCells x).toArray := by
    have h2 : (Value.agg cs).cells = cs := rfl
    rw [h2] at hx
    rw [← hx]
  rw [this]; rfl

theorem open_stamps {P : Program} {w : World} {r : Reach} {base : Nat} {t e ti : TypeId} {v : Value} {H : Type} {enc : TypeId × Value → H} {sp : Nat → Bool} {d : DataW H} {ps : List MemPlace} {f0 f1 : Field}
    (hv : Value.okWide P w r base t v) (h : DataW.Trod enc P w 0 sp true t v d ps) (hw : ∀ n ∈ d.weights P t, n ≤ reachBytes) (hs : P.underlying t = some (.slice e)) (ht : P.underlying e = some (.struct #[f0, f1])) (hc : P.cellsOf e = 2) (hi : P.underlying ti = some (.int .i64)) (hci : P.cellsOf ti = 1)
    (e0 : f0.type = ti ∧ f0.offset = 0) (e1 : f1.type = ti ∧ f1.offset = 1) : ∃ l, SliceR w v 2 stCells l ∧ ∀ x ∈ l, stOk x := by
  obtain ⟨a, n, c, rfl⟩ := okWide_slice hs hv
  obtain ⟨v', l, h1, h2, _, h3⟩ := (reads_of_trod h hw).list 2 stCells stOk hs hc (by omega) (fun ds hd => hd.stamp ht hc hi hci e0 e1)
  have h4 : (Value.slice a n c).cells.toList = [Value.slice a n c] := rfl
  rw [h4] at h1
  simp at h1
  exact ⟨l, h1 ▸ h2, h3⟩


/-! Rows of numbers -/
def intCell (n : Int) : List Value := [.int .i64 n]
def oneCell (u : Value) : List Value := [u]

/-- A slice of slices of numbers. -/
def RowsR (w : World) (v : Value) (m : List (List Int)) : Prop :=
  ∃ us : List Value, SliceR w v 1 oneCell us ∧ us.length = m.length ∧ ∀ i, i < m.length → SliceR w (us.getD i .nilIface) 1 intCell (m.getD i [])

theorem RowsR.below {w w' : World} {v : Value} {m : List (List Int)} (h : RowsR w v m) (hb : Below w.heap.size w w') : RowsR w' v m := by
  obtain ⟨us, h1, h2, h3⟩ := h
  exact ⟨us, h1.below (fun _ => rfl) hb, h2, fun i hi => (h3 i hi).below (fun _ => rfl) hb⟩

theorem open_rows {P : Program} {w : World} {r : Reach} {base : Nat} {t e ti : TypeId} {v : Value} {H : Type} {enc : TypeId × Value → H} {sp : Nat → Bool} {d : DataW H} {ps : List MemPlace}
    (hv : Value.okWide P w r base t v) (h : DataW.Trod enc P w 0 sp true t v d ps) (hw : ∀ n ∈ d.weights P t, n ≤ reachBytes) (hs : P.underlying t = some (.slice e)) (he : P.underlying e = some (.slice ti)) (hi : P.underlying ti = some (.int .i64)) (hce : P.cellsOf e = 1) (hci : P.cellsOf ti = 1) :
    ∃ m, RowsR w v m ∧ m.length * P.bytesOf e ≤ reachBytes ∧ ∀ r ∈ m, r.length * P.bytesOf ti ≤ reachBytes ∧ ∀ x ∈ r, ok64 x := by
  obtain ⟨a, n, c, rfl⟩ := okWide_slice hs hv
  obtain ⟨v', ml, h1, h2, h2w, h3⟩ := (reads_of_trod h hw).list (α := Value × List Int) 1 (fun y => oneCell y.1) (fun y => SliceR w y.1 1 intCell y.2 ∧ y.2.length * P.bytesOf ti ≤ reachBytes ∧ ∀ x ∈ y.2, ok64 x) hs hce (by omega) (fun ds hd => by
    obtain ⟨u, l, e1, e2, e4, e3⟩ := hd.list 1 intCell ok64 he hci (by omega) (fun ds hd => by
      obtain ⟨n, e1, e2⟩ := hd.int hi
      exact ⟨n, e1, e2⟩)
    exact ⟨(u, l), e1, e2, e4, e3⟩)
  have h4 : (Value.slice a n c).cells.toList = [Value.slice a n c] := rfl
  rw [h4] at h1
  simp at h1
  subst h1
  obtain ⟨a', cap, e1, e2, e3, e4, e5⟩ := h2
  refine ⟨ml.map (·.2), ⟨ml.map (·.1), ⟨a', cap, by simpa using e1, by simpa using e2, e3, e4, fun hl => ?_⟩, by simp, fun i hi => ?_⟩, by simpa using h2w, fun r hr => ?_⟩
  · obtain ⟨b, off, ha, hd⟩ := e5 (by simpa using hl)
    exact ⟨b, off, ha, fun i hi j hj => by simpa using hd i (by simpa using hi) j hj⟩
  · have hi' : i < ml.length := by simpa using hi
    have := (h3 _ (List.getElem_mem hi')).1
    simpa [List.getD, hi'] using this
  · obtain ⟨y, hy, rfl⟩ := List.mem_map.1 hr
    exact (h3 y hy).2

/-- The cells of a slice whose elements are one cell each, as the walk spells them. -/
theorem SliceR.one {α : Type} {w : World} {v : Value} {c : α → Value} {l : List α} (d : α) (h : SliceR w v 1 (fun y => [c y]) l) :
    ∃ a cap, v = .slice a l.length cap ∧ l.length ≤ cap ∧ cap ≤ maxLen ∧ (a = none → cap = 0) ∧ (0 < l.length → ∃ b off, a = some ⟨b, off, none⟩ ∧ ∀ i, i < l.length → w.cell? ⟨b, off + i, none⟩ = some (c (l.getD i d))) := by
  obtain ⟨a, cap, h1, h2, h3, h4, h5⟩ := h
  refine ⟨a, cap, h1, h2, h3, h4, fun hl => ?_⟩
  obtain ⟨b, off, ha, hd⟩ := h5 hl
  refine ⟨b, off, ha, fun i hi => ?_⟩
  have e : l.getD i d = l[i] := by simp [List.getD, hi]
  rw [e]
  simpa using hd i hi 0 (by omega)

end Go.Proofs.Ytolgkadoplalnaa
