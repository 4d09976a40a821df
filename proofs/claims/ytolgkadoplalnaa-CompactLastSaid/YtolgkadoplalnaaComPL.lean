/-
  Plain law of compaction: what is left, told from the front; the document's way is the same; it may be; twice is once; the last ones of keys and what is fetched. No program in sight.
-/
import Derived.Test.YtolgkadoplalnaaComP
import Derived.Test.YtolgkadoplalnaaMay17
import Derived.Test.YtolgkadoplalnaaKeepLaw
namespace Go.Proofs.Ytolgkadoplalnaa
open Go.RowKit

/-- Is there one of key k below m? -/
def hasL (m : Int) (k : ByteArray) (l : List Ent) : Bool := l.any fun y => decide (y.off < m) && decide (y.key = k)
theorem hasL_iff {m : Int} {k : ByteArray} {l : List Ent} : hasL m k l = true ↔ ∃ y ∈ l, y.off < m ∧ y.key = k := by simp [hasL]
theorem hasL_no {m : Int} {k : ByteArray} {l : List Ent} : hasL m k l = false ↔ ∀ y ∈ l, y.off < m → y.key ≠ k := by
  rw [← Bool.not_eq_true, hasL_iff]
  constructor
  · exact fun h y hy hm hk => h ⟨y, hy, hm, hk⟩
  · exact fun h ⟨y, hy, hm, hk⟩ => h y hy hm hk
theorem hasL_mono {m n : Int} {k : ByteArray} {l : List Ent} (hmn : m ≤ n) (h : hasL m k l = true) : hasL n k l = true := by
  obtain ⟨y, hy, h1, h2⟩ := hasL_iff.1 h
  exact hasL_iff.2 ⟨y, hy, by omega, h2⟩
theorem hasL_cons (m : Int) (k : ByteArray) (x : Ent) (l : List Ent) : hasL m k (x :: l) = ((decide (x.off < m) && decide (x.key = k)) || hasL m k l) := by simp [hasL]
/-- What is left, told from the front. -/
def keepF (m : Int) : List Ent → List Ent
  | [] => []
  | x :: l => if (decide (x.off < m) && hasL m x.key l) = true then keepF m l else x :: keepF m l
theorem keepF_skip {m : Int} {x : Ent} {l : List Ent} (h : x.off < m) (hh : hasL m x.key l = true) : keepF m (x :: l) = keepF m l := by simp [keepF, h, hh]
theorem keepF_keep {m : Int} {x : Ent} {l : List Ent} (h : ¬ (x.off < m ∧ hasL m x.key l = true)) : keepF m (x :: l) = x :: keepF m l := by
  rw [keepF, if_neg (by simpa using h)]

theorem keysC_iff (m : Int) (k : ByteArray) : ∀ l : List Ent, k ∈ keysC m l ↔ hasL m k l = true := by
  have : ∀ (l : List Ent) (s : List ByteArray), k ∈ l.foldl (fun s x => if x.off < m then x.key :: s else s) s ↔ k ∈ s ∨ hasL m k l = true := by
    intro l
    induction l with
    | nil => intro s; simp [hasL]
    | cons x l ih =>
      intro s
      rw [List.foldl_cons, ih, hasL_cons]
      by_cases h : x.off < m
      · simp only [h, if_true, List.mem_cons, decide_true, Bool.true_and, Bool.or_eq_true, decide_eq_true_eq]
        constructor
        · rintro ((rfl | h) | h)
          · exact Or.inr (Or.inl rfl)
          · exact Or.inl h
          · exact Or.inr (Or.inr h)
        · rintro (h | rfl | h)
          · exact Or.inl (Or.inr h)
          · exact Or.inl (Or.inl rfl)
          · exact Or.inr h
      · simp [h]
  intro l
  have h := this l []
  simpa [keysC] using h
theorem run_keep (m : Int) (l : List Ent) : ∀ (suf pre : List Ent), l = pre ++ suf → (runC m l suf.reverse).2 = (keepF m suf).reverse ∧ ∀ k, k ∈ (runC m l suf.reverse).1 ↔ (hasL m k l = true ∧ hasL m k suf = false)
  | [], _, _ => by
    refine ⟨rfl, fun k => ?_⟩
    show k ∈ keysC m l ↔ _
    rw [keysC_iff]
    simp [hasL]
  | x :: suf, pre, he => by
    obtain ⟨h1, h2⟩ := run_keep m l suf (pre ++ [x]) (by rw [he]; simp)
    rw [List.reverse_cons, runC_snoc]
    by_cases hx : x.off < m
    · have hxl : hasL m x.key l = true := hasL_iff.2 ⟨x, by rw [he]; simp, hx, rfl⟩
      by_cases hs : hasL m x.key suf = true
      · have hno : x.key ∉ (runC m l suf.reverse).1 := fun h => by have := ((h2 _).1 h).2; rw [hs] at this; cases this
        rw [stepC_no hx hno, keepF_skip hx hs]
        refine ⟨h1, fun k => ?_⟩
        rw [h2, hasL_cons]
        by_cases hk : x.key = k
        · subst hk
          simp [hs]
        · simp [hk]
      · have hs' : hasL m x.key suf = false := by simpa using hs
        rw [stepC_yes hx ((h2 _).2 ⟨hxl, hs'⟩), keepF_keep (fun h => hs h.2)]
        refine ⟨by simp [h1], fun k => ?_⟩
        simp only [List.mem_filter, h2, hasL_cons, hx, decide_true, Bool.true_and, Bool.or_eq_false_iff, decide_eq_false_iff_not, decide_eq_true_eq]
        constructor
        · rintro ⟨⟨a, b⟩, c⟩; exact ⟨a, fun e => c e.symm, b⟩
        · rintro ⟨a, c, b⟩; exact ⟨⟨a, b⟩, fun e => c e.symm⟩
    · rw [stepC_out hx, keepF_keep (fun h => hx h.1)]
      refine ⟨by simp [h1], fun k => ?_⟩
      rw [h2, hasL_cons]
      simp [hx]
/-- WHAT THE PROGRAM LEAVES, from the front. -/
theorem left_keep (m : Int) (l : List Ent) : leftC m l = keepF m l := by
  rw [leftC, (run_keep m l l [] rfl).1, List.reverse_reverse]

/-! The last one of a key -/
def lastO (l : List Ent) (k : ByteArray) (b : Int) : Option Ent := l.reverse.find? (wantE k b)
theorem lastP_of (l : List Ent) (k : ByteArray) (b : Int) : lastP l k b = match lastO l k b with | some x => (x, true) | none => (default, false) := rfl
theorem lastO_cons (x : Ent) (l : List Ent) (k : ByteArray) (b : Int) : lastO (x :: l) k b = (lastO l k b).or (if wantE k b x = true then some x else none) := by
  rw [lastO, List.reverse_cons, List.find?_append]
  by_cases h : wantE k b x = true <;> simp [lastO, h]
theorem want_iff {k : ByteArray} {b : Int} {x : Ent} : wantE k b x = true ↔ x.off < b ∧ x.key = k := by
  unfold wantE
  rw [Bool.and_eq_true, beq_iff_eq, decide_eq_true_eq]
  exact ⟨fun h => ⟨h.2, toList_eq h.1⟩, fun h => ⟨by rw [h.2], h.1⟩⟩
theorem lastO_none {l : List Ent} {k : ByteArray} {b : Int} : lastO l k b = none ↔ hasL b k l = false := by
  rw [lastO, List.find?_eq_none, hasL_no]
  constructor
  · exact fun h y hy h1 h2 => h y (by simpa using hy) (want_iff.2 ⟨h1, h2⟩)
  · exact fun h y hy h1 => h y (by simpa using hy) (want_iff.1 h1).1 (want_iff.1 h1).2
theorem lastO_mem {l : List Ent} {k : ByteArray} {b : Int} {y : Ent} (h : lastO l k b = some y) : y ∈ l ∧ y.off < b ∧ y.key = k := by
  have h1 := List.mem_of_find?_eq_some h
  have h2 := List.find?_some h
  exact ⟨by simpa using h1, want_iff.1 h2⟩
theorem lastO_some {l : List Ent} {k : ByteArray} {b : Int} (h : hasL b k l = true) : ∃ y, lastO l k b = some y := by
  cases e : lastO l k b with
  | some y => exact ⟨y, rfl⟩
  | none => rw [lastO_none.1 e] at h; cases h
theorem lastO_keep {m b : Int} (hmb : m ≤ b) (k : ByteArray) : ∀ l : List Ent, lastO (keepF m l) k b = lastO l k b
  | [] => rfl
  | x :: l => by
    by_cases h : x.off < m ∧ hasL m x.key l = true
    · rw [keepF_skip h.1 h.2, lastO_keep hmb k l, lastO_cons]
      by_cases hw : wantE k b x = true
      · obtain ⟨y, hy⟩ := lastO_some (b := b) (k := k) (l := l) (by rw [← (want_iff.1 hw).2]; exact hasL_mono hmb h.2)
        rw [hy]; rfl
      · rw [if_neg hw]; cases lastO l k b <;> rfl
    · rw [keepF_keep h, lastO_cons, lastO_cons, lastO_keep hmb k l]
theorem lastP_keep {m b : Int} (hmb : m ≤ b) (k : ByteArray) (l : List Ent) : lastP (keepF m l) k b = lastP l k b := by rw [lastP_of, lastP_of, lastO_keep hmb]

/-! The document's way -/
def keptR (m : Int) (l : List Ent) (x : Ent) : Bool := decide (m ≤ x.off) || decide ((lastP l x.key m).1.off = x.off)
def refC (m : Int) (l : List Ent) : List Ent := l.filter (keptR m l)
def risesS (l : List Ent) : Prop := l.Pairwise fun x y => x.off < y.off
theorem rises_pair {l : List Ent} (h : rises l) : risesS l := by
  rw [risesS, List.pairwise_iff_getElem]
  intro i j hi hj hij
  have := rises_lt h hij hj
  rwa [getD_at hi, getD_at hj] at this
theorem lastO_split {pre l : List Ent} {x : Ent} {m : Int} (hx : x.off < m) : lastO (pre ++ x :: l) x.key m = (lastO l x.key m).or (some x) := by
  have hw : wantE x.key m x = true := want_iff.2 ⟨hx, rfl⟩
  have e : lastO (pre ++ x :: l) x.key m = (lastO (x :: l) x.key m).or (lastO pre x.key m) := by
    rw [lastO, List.reverse_append, List.find?_append]; rfl
  rw [e, lastO_cons, if_pos hw]
  cases lastO l x.key m <;> rfl
theorem ref_keep {l : List Ent} (m : Int) (h : risesS l) : refC m l = keepF m l := by
  suffices ∀ suf pre : List Ent, l = pre ++ suf → suf.filter (keptR m l) = keepF m suf from this l [] rfl
  intro suf
  induction suf with
  | nil => intro _ _; rfl
  | cons x suf ih =>
    intro pre he
    have ih' := ih (pre ++ [x]) (by rw [he]; simp)
    have hlater : ∀ y ∈ suf, x.off < y.off := by
      rw [he, risesS, List.pairwise_append, List.pairwise_cons] at h
      exact h.2.1.1
    by_cases hx : x.off < m
    · have e : lastO l x.key m = (lastO suf x.key m).or (some x) := by rw [he]; exact lastO_split hx
      by_cases hs : hasL m x.key suf = true
      · obtain ⟨y, hy⟩ := lastO_some hs
        have := hlater y (lastO_mem hy).1
        have hk : keptR m l x = false := by
          rw [keptR, lastP_of, e, hy]
          simp
          omega
        rw [List.filter_cons_of_neg (by simp [hk]), keepF_skip hx hs, ih']
      · have hk : keptR m l x = true := by
          rw [keptR, lastP_of, e, lastO_none.2 (by simpa using hs)]
          simp
        rw [List.filter_cons_of_pos hk, keepF_keep (fun h => hs h.2), ih']
    · have hk : keptR m l x = true := by
        rw [keptR]
        simp
        omega
      rw [List.filter_cons_of_pos hk, keepF_keep (fun h => hx h.1), ih']

/-! What is left may be -/
theorem keepF_sub (m : Int) : ∀ l : List Ent, (keepF m l).Sublist l
  | [] => List.Sublist.refl _
  | x :: l => by
    by_cases h : x.off < m ∧ hasL m x.key l = true
    · rw [keepF_skip h.1 h.2]; exact (keepF_sub m l).cons _
    · rw [keepF_keep h]; exact (keepF_sub m l).cons_cons _
theorem chk_keep {t t' : Top} {m : Int} (h1 : t'.mark = m) (h2 : t'.next = t.next) (hm : t.mark ≤ m) (hn : m ≤ t.next) : ∀ (l : List Ent) (last last' : Int) (seen seen' : List ByteArray), last' ≤ last → (last' = last ∨ last < m) → (∀ k ∈ seen', hasL m k l = false) → Top.chk t last seen l → Top.chk t' last' seen' (keepF m l)
  | [], last, last', _, _, ha, hb, _, h => by
    have h' : max (last + 1) t.mark = t.next := h
    show max (last' + 1) t'.mark = t'.next
    rw [h1, h2]; omega
  | x :: l, last, last', seen, seen', ha, hb, hs, ⟨⟨a1, a2, a3, a4, a5⟩, hr⟩ => by
    have hs2 : ∀ k ∈ seen', hasL m k l = false := fun k hk => by
      have := hs k hk
      rw [hasL_cons, Bool.or_eq_false_iff] at this
      exact this.2
    by_cases h : x.off < m ∧ hasL m x.key l = true
    · rw [keepF_skip h.1 h.2]
      exact chk_keep h1 h2 hm hn l x.off last' _ seen' (by omega) (Or.inr h.1) hs2 hr
    · rw [keepF_keep h]
      refine ⟨⟨a1, by omega, by rw [h2]; exact a3, by rw [h1]; omega, fun hx hk => ?_⟩, chk_keep h1 h2 hm hn l x.off x.off _ _ (Int.le_refl _) (Or.inl rfl) (fun k hk => ?_) hr⟩
      · have := hs _ hk
        rw [hasL_cons, Bool.or_eq_false_iff] at this
        rw [h1] at hx
        simp [hx] at this
      · by_cases hx : x.off < t'.mark
        · rw [if_pos hx] at hk
          rcases List.mem_cons.1 hk with rfl | hk
          · rw [h1] at hx
            cases e : hasL m x.key l with
            | true => exact absurd ⟨hx, e⟩ h
            | false => rfl
          · exact hs2 k hk
        · rw [if_neg hx] at hk
          exact hs2 k hk
def compT (t : Top) (to : Int) : Top := ⟨t.base, t.next, markC t to, keepF (markC t to) t.ents⟩
theorem mark_bounds {t : Top} (h : t.may) (to : Int) : t.mark ≤ markC t to ∧ markC t to ≤ t.next ∧ 0 ≤ markC t to := by
  obtain ⟨a1, a2, a3, a4, a5, a6, a7⟩ := h.1
  unfold markC
  omega
theorem comp_may {t : Top} (to : Int) (h : t.may) : (compT t to).may := by
  obtain ⟨b1, b2, b3⟩ := mark_bounds h to
  obtain ⟨a1, a2, a3, a4, a5, a6, a7⟩ := h.1
  refine (Top.may_iff _).2 ⟨⟨a1, a2, a3, a4, b3, b2, Nat.le_trans (keepF_sub _ _).length_le a7⟩, ?_⟩
  exact chk_keep (t := t) (t' := compT t to) rfl rfl b1 b2 t.ents (t.base - 1) (t.base - 1) [] [] (Int.le_refl _) (Or.inl rfl) (fun _ h => by cases h) ((Top.may_iff t).1 h).2
theorem compactP_T {t : Top} {to : Int} (h : t.may) (h' : ¬ (to < 0 ∨ 1073741824 < to)) : compactP t to = (compT t to, 0) := by rw [compactP_yes h h', left_keep]; rfl
theorem comp_cases {t u : Top} {to e : Int} (h : compactP t to = (u, e)) : (u = Top.zero ∧ (e = 2 ∨ e = 8)) ∨ ((e = 0 ∧ u = compT t to) ∧ (t.may ∧ u.may) ∧ 0 ≤ to ∧ to ≤ 1073741824) := by
  by_cases hm : t.may
  · by_cases ht : to < 0 ∨ 1073741824 < to
    · rw [compactP_arg hm ht] at h; cases h; exact Or.inl ⟨rfl, Or.inl rfl⟩
    · rw [compactP_T hm ht] at h; cases h
      exact Or.inr ⟨⟨rfl, rfl⟩, ⟨hm, comp_may to hm⟩, by omega, by omega⟩
  · rw [compactP_bad hm] at h; cases h; exact Or.inl ⟨rfl, Or.inr rfl⟩

/-! Twice is once -/
theorem hasL_keep {m n : Int} (hmn : m ≤ n) (k : ByteArray) : ∀ l : List Ent, hasL n k (keepF m l) = hasL n k l
  | [] => rfl
  | x :: l => by
    by_cases h : x.off < m ∧ hasL m x.key l = true
    · rw [keepF_skip h.1 h.2, hasL_keep hmn k l, hasL_cons]
      by_cases hk : x.key = k
      · have := hasL_mono hmn h.2
        rw [hk] at this
        rw [this, Bool.or_true]
      · simp [hk]
    · rw [keepF_keep h, hasL_cons, hasL_cons, hasL_keep hmn k l]
theorem keep_keep {m n : Int} (hmn : m ≤ n) : ∀ l : List Ent, keepF n (keepF m l) = keepF n l
  | [] => rfl
  | x :: l => by
    by_cases h : x.off < m ∧ hasL m x.key l = true
    · rw [keepF_skip h.1 h.2, keep_keep hmn l, keepF_skip (by omega) (hasL_mono hmn h.2)]
    · rw [keepF_keep h]
      by_cases h2 : x.off < n ∧ hasL n x.key l = true
      · rw [keepF_skip h2.1 h2.2, keepF_skip h2.1 (by rw [hasL_keep hmn]; exact h2.2), keep_keep hmn l]
      · rw [keepF_keep h2, keepF_keep (by rw [hasL_keep hmn]; exact h2), keep_keep hmn l]
theorem comp_twice {t : Top} {m n : Int} (h : t.may) (hn : 0 ≤ n) (hn2 : n ≤ 1073741824) (hle : m ≤ n) : compactP (compT t m) n = (compT t n, 0) := by
  rw [compactP_T (comp_may m h) (by omega)]
  have e : markC (compT t m) n = markC t n := by
    show max (markC t m) (min n t.next) = _
    unfold markC
    omega
  have e2 : compT (compT t m) n = ⟨t.base, t.next, markC (compT t m) n, keepF (markC (compT t m) n) (keepF (markC t m) t.ents)⟩ := rfl
  rw [e2, e, keep_keep (by unfold markC; omega)]
  rfl
theorem comp_again {t : Top} {m n : Int} (h : t.may) (hm : 0 ≤ m) (hm2 : m ≤ 1073741824) (hle : m ≤ n) : compactP (compT t n) m = (compT t n, 0) := by
  rw [compactP_T (comp_may n h) (by omega)]
  have e : markC (compT t n) m = markC t n := by
    show max (markC t n) (min m t.next) = _
    unfold markC
    omega
  have e2 : compT (compT t n) m = ⟨t.base, t.next, markC (compT t n) m, keepF (markC (compT t n) m) (keepF (markC t n) t.ents)⟩ := rfl
  rw [e2, e, keep_keep (Int.le_refl _)]
  rfl

/-! What is read behind it -/
theorem latest_comp {t : Top} {to : Int} (h : t.may) (k : ByteArray) {b : Int} (hb : markC t to ≤ b) : latestP (compT t to) k b = latestP t k b := by
  rw [latestP, latestP, if_pos h, if_pos (comp_may to h)]
  have e : (compT t to).ents = keepF (markC t to) t.ents := rfl
  rw [e, lastP_keep hb]
theorem find_keep {m o : Int} (h : m ≤ o) : ∀ l : List Ent, (keepF m l).find? (fun x => x.off == o) = l.find? (fun x => x.off == o)
  | [] => rfl
  | x :: l => by
    by_cases hx : x.off < m ∧ hasL m x.key l = true
    · rw [keepF_skip hx.1 hx.2, find_keep h l, List.find?_cons_of_neg (by simp; omega)]
    · rw [keepF_keep hx]
      rw [List.find?_cons, List.find?_cons, find_keep h l]
theorem rises_inj {l : List Ent} (h : rises l) {x y : Ent} (hx : x ∈ l) (hy : y ∈ l) (e : x.off = y.off) : x = y := by
  obtain ⟨i, hi, rfl⟩ := List.getElem_of_mem hx
  obtain ⟨j, hj, rfl⟩ := List.getElem_of_mem hy
  rcases Nat.lt_trichotomy i j with h1 | h1 | h1
  · have := rises_lt h h1 hj
    rw [getD_at hi, getD_at hj] at this
    omega
  · subst h1; rfl
  · have := rises_lt h h1 hi
    rw [getD_at hi, getD_at hj] at this
    omega
theorem find_keep_or {m o : Int} {l : List Ent} (h : rises l) : (keepF m l).find? (fun x => x.off == o) = l.find? (fun x => x.off == o) ∨ (keepF m l).find? (fun x => x.off == o) = none := by
  cases e : (keepF m l).find? (fun x => x.off == o) with
  | none => exact Or.inr rfl
  | some y =>
    left
    have h1 := (keepF_sub m l).subset (List.mem_of_find?_eq_some e)
    have h2 := List.find?_some e
    cases e' : l.find? (fun x => x.off == o) with
    | none => exact absurd h2 (List.find?_eq_none.1 e' y h1)
    | some z =>
      have h3 := List.mem_of_find?_eq_some e'
      have h4 := List.find?_some e'
      simp only [beq_iff_eq] at h2 h4
      rw [rises_inj h h1 h3 (by omega)]
theorem fetch_comp_high {t : Top} {to o : Int} (h : t.may) (ho : o < 0 ∨ markC t to ≤ o) : fetchP (compT t to) o = fetchP t o := by
  rw [fetchP, fetchP, if_pos h, if_pos (comp_may to h)]
  have e : (compT t to).ents = keepF (markC t to) t.ents := rfl
  have e1 : (compT t to).next = t.next := rfl
  have e2 : (compT t to).base = t.base := rfl
  rw [e, e1, e2]
  by_cases h1 : o < 0
  · rw [if_pos h1, if_pos h1]
  · rw [if_neg h1, if_neg h1, find_keep (by omega)]
theorem fetch_comp {t : Top} {to o : Int} (h : t.may) : fetchP (compT t to) o = fetchP t o ∨ ((fetchP t o).2 = 0 ∧ fetchP (compT t to) o = (default, 172)) := by
  rw [fetchP, fetchP, if_pos h, if_pos (comp_may to h)]
  have e : (compT t to).ents = keepF (markC t to) t.ents := rfl
  have e1 : (compT t to).next = t.next := rfl
  have e2 : (compT t to).base = t.base := rfl
  rw [e, e1, e2]
  by_cases h1 : o < 0
  · left; rw [if_pos h1, if_pos h1]
  · rw [if_neg h1, if_neg h1]
    by_cases h2 : t.next ≤ o
    · left; rw [if_pos h2, if_pos h2]
    · rw [if_neg h2, if_neg h2]
      by_cases h3 : o < t.base
      · left; rw [if_pos h3, if_pos h3]
      · rw [if_neg h3, if_neg h3]
        rcases find_keep_or (m := markC t to) (o := o) (may_rises h) with h4 | h4
        · left; rw [h4]
        · rw [h4]
          cases t.ents.find? (fun x => x.off == o) with
          | none => left; rfl
          | some x => right; exact ⟨rfl, rfl⟩
end Go.Proofs.Ytolgkadoplalnaa
