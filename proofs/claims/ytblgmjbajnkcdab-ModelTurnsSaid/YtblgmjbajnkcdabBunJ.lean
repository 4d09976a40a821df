/-
  Texts that belong together; the remark at the head of each says what it proves.
-/
import Derived.Test.YtblgmjbajnkcdabProg
import Derived.Test.YtblgmjbajnkcdabBunA
import Derived.Laws.EntriesVeiled
import Derived.Laws.CopyOwn
import Derived.OwnWalk
import Derived.Deep.DeepMust
import Derived.StillTailTactics
import Derived.Laws.OwnMore
set_option maxRecDepth 100000
/-
  commits.Check and what it calls: slices.IndexFunc, slices.ContainsFunc at rows of numbers, the two closures. No condition but that the slices read.
-/
namespace Go.Proofs.Ytblgmjbajnkcdab
open Go.RowKit

def badI (n : Int) : Bool := decide (n < 0) || decide (1073741824 < n)
theorem bad_any (n : Int) (w : World) : Calls Try.prog 100 #[.int .i64 n] w fun e w' => e = .returned (.bool (badI n)) ∧ w = w' := by
  by_cases h1 : n < 0
  · rw [show badI n = true from by simp [badI, h1]]
    go_enter Try.func100, Try.ntmps100
    go_wp2
    go_ret
    exact ⟨rfl, rfl⟩
  · by_cases h2 : 1073741824 < n
    · rw [show badI n = true from by simp [badI, h2]]
      go_enter Try.func100, Try.ntmps100
      go_wp2
      go_ret
      exact ⟨rfl, rfl⟩
    · rw [show badI n = false from by simp [badI]; omega]
      have h3 : decide (1073741824 < n) = false := by simpa using h2
      go_enter Try.func100, Try.ntmps100
      go_wp2
      go_ret
      exact ⟨rfl, rfl⟩

/-- slices.IndexFunc over a row of numbers: is there one that may not be? -/
theorem idxInt_none (a : Option Addr) (cap : Nat) (f : Value) (w : World) : Calls Try.prog 111 #[.slice a 0 cap, f] w fun e w' => e = .returned (.int .i64 (-1)) ∧ Below w.heap.size w w' := by
  go_enter Try.func111, Try.ntmps111
  go_wp2_with fail
  refine wp_loop_rounds 1 ?_
  rw [rounds_succ]
  go_wp2
  go_ret
  exact ⟨rfl, Below.refl _ _⟩

def SomeIdx (l : List Int) (w : World) (e : Ending) (w' : World) : Prop := (∃ i : Int, e = .returned (.int .i64 i) ∧ (if l.any badI then 0 ≤ i else i = -1)) ∧ Below w.heap.size w w'

theorem idxInt_some (b off n cap : Nat) (l : List Int) (w : World) (hn : n = l.length) (hl : 0 < n) (hcap : n ≤ cap) (hm : cap ≤ 9223372036854775807) (hc : ∀ i, i < n → w.cell? ⟨b, off + i, none⟩ = some (.int .i64 (l.getD i 0))) :
    Calls Try.prog 111 #[.slice (some ⟨b, off, none⟩) n cap, .func (.func 100) #[] #[]] w (SomeIdx l w) := by
  have HC := Lib.hid hc
  have HN := Lib.hid hn
  clear hn hc
  have hl' : (0 : Int) < (n : Int) := by omega
  go_enter Try.func111, Try.ntmps111
  go_wp2_with fail
  go_loopw [5, 8] (fun _ i wr => ∃ k : Nat, k ≤ n ∧ i = .int .i64 (k : Int) ∧ Hid (∀ j, j < k → badI (l.getD j 0) = false) ∧ Below w.heap.size w wr) (fun _ i _ => n - (intOf i).toNat)
  case atStart => exact ⟨0, Nat.zero_le _, rfl, (fun j hj => absurd hj (Nat.not_lt_zero _)), Below.refl _ _⟩
  case round =>
    obtain ⟨k, hk, rfl, hno, hb⟩ := hrel
    by_cases hlt : k < n
    · have hk0 : (0 : Int) ≤ (k : Int) := by omega
      have hk1 : (k : Int) < (n : Int) := by omega
      have c0 := keep hb (HC.out k hlt)
      obtain ⟨x, hx⟩ : ∃ x, x = l.getD k 0 := ⟨_, rfl⟩
      rw [← hx] at c0
      have HX := Lib.hid hx
      clear hx
      obtain ⟨c, hc⟩ : ∃ c, c = badI x := ⟨_, rfl⟩
      have L : ∀ w, Calls Try.prog 100 #[.int .i64 x] w fun e w' => e = .returned (.bool c) ∧ w = w' := fun w => by rw [hc]; exact bad_any x w
      have HL := Lib.hid L
      have HLC := Lib.hid hc
      clear L hc
      cases c
      all_goals
        go_wp2_with fail
        refine (HL.out _).mono ?_
        rintro e w1 ⟨rfl, rfl⟩
        go_wp2_with fail
      · go_roundw
        case rel =>
          refine ⟨k + 1, by omega, by go_num, fun j hj => ?_, hb⟩
          by_cases hjk : j < k
          · exact hno.out j hjk
          · obtain rfl : j = k := by omega
            rw [← HX.out, ← HLC.out]
        case measure => simp [intOf]; omega
      · go_ret
        refine ⟨⟨k, rfl, ?_⟩, hb⟩
        have : l.any badI = true := by
          rw [List.any_eq_true]
          have h1 := HN.out
          refine ⟨x, ?_, HLC.out.symm⟩
          rw [HX.out]
          simp [List.getD, show k < l.length by omega]
        rw [if_pos this]
        omega
    · obtain rfl : k = n := by omega
      have hlt' : ¬ (k : Int) < (k : Int) := by omega
      go_wp2_with fail
      go_ret
      refine ⟨⟨-1, rfl, ?_⟩, hb⟩
      have : l.any badI = false := by
        rw [List.any_eq_false]
        intro y hy
        obtain ⟨j, hj, rfl⟩ := List.getElem_of_mem hy
        have h1 := HN.out
        have h2 := hno.out j (by omega)
        simpa [List.getD, hj] using h2
      rw [this]
      rfl

theorem contInt_any {v : Value} {l : List Int} {w : World} (h : SliceR w v 1 intCell l) :
    Calls Try.prog 103 #[v, .func (.func 100) #[] #[]] w fun e w' => e = .returned (.bool (l.any badI)) ∧ Below w.heap.size w w' := by
  obtain ⟨a, cap, rfl, hcap, hm, _, hc⟩ := h.one (c := fun n => .int .i64 n) 0
  have K : Calls Try.prog 111 #[.slice a l.length cap, .func (.func 100) #[] #[]] w (SomeIdx l w) := by
    by_cases hl : l.length = 0
    · have : l = [] := List.length_eq_zero_iff.1 hl
      subst this
      exact (idxInt_none a cap _ w).mono fun e w' ⟨h1, h2⟩ => ⟨⟨-1, h1, by simp⟩, h2⟩
    · obtain ⟨b, off, rfl, hd⟩ := hc (by omega)
      unfold maxLen at hm
      exact idxInt_some b off _ cap l w rfl (by omega) hcap hm hd
  have HK := Lib.hid K
  clear K hc
  obtain ⟨c, hc⟩ : ∃ c, c = l.any badI := ⟨_, rfl⟩
  rw [← hc]
  have HCC := Lib.hid hc
  clear hc
  go_enter Try.func103, Try.ntmps103
  go_wp2_with fail
  refine HK.out.mono ?_
  rintro e w1 ⟨⟨i, rfl, hi⟩, hb⟩
  rw [← HCC.out] at hi
  cases c
  · simp only [Bool.false_eq_true, if_false] at hi
    subst hi
    go_wp2_with fail
    go_ret
    exact ⟨rfl, hb⟩
  · rw [if_pos rfl] at hi
    go_wp2_with fail
    go_ret
    exact ⟨rfl, hb⟩

end Go.Proofs.Ytblgmjbajnkcdab
/-
  commits.Check, commits.asked, commits.Get. No condition but that the slices read.
-/
namespace Go.Proofs.Ytblgmjbajnkcdab
open Go.RowKit

def rowBad (l : List Int) : Bool := decide (l.length ≠ 8) || l.any badI
theorem rowBad_any {v : Value} {l : List Int} {w : World} {pb : Nat} (h : SliceR w v 1 intCell l) (hp : w.cell? ⟨pb, 0, none⟩ = some (.func (.func 100) #[] #[])) :
    Calls Try.prog 102 #[v, .pointer (some ⟨pb, 0, none⟩)] w fun e w' => e = .returned (.bool (rowBad l)) ∧ Below w.heap.size w w' := by
  have K := Lib.hid (contInt_any h)
  obtain ⟨a, cap, rfl, _⟩ := h
  by_cases h8 : l.length = 8
  · have e8 : rowBad l = l.any badI := by simp [rowBad, h8]
    rw [e8]
    obtain ⟨c, hc⟩ : ∃ c, c = l.any badI := ⟨_, rfl⟩
    rw [← hc] at K ⊢
    clear hc
    have hd : ((l.length : Int) != 8) = false := by simp; omega
    clear e8 h8
    cases c
    all_goals
      go_enter Try.func102, Try.ntmps102
      go_wp2_with fail
      refine K.out.mono ?_
      rintro e w1 ⟨rfl, hb⟩
      go_wp2_with fail
      go_ret
      exact ⟨rfl, hb⟩
  · have e8 : rowBad l = true := by simp [rowBad, h8]
    rw [e8]
    have hd : ((l.length : Int) != 8) = true := by simp; omega
    clear e8 h8 K
    go_enter Try.func102, Try.ntmps102
    go_wp2_with fail
    go_ret
    exact ⟨rfl, Below.refl _ _⟩

theorem idxRow_none (a : Option Addr) (cap : Nat) (f : Value) (w : World) : Calls Try.prog 110 #[.slice a 0 cap, f] w fun e w' => e = .returned (.int .i64 (-1)) ∧ Below w.heap.size w w' := by
  go_enter Try.func110, Try.ntmps110
  go_wp2_with fail
  refine wp_loop_rounds 1 ?_
  rw [rounds_succ]
  go_wp2
  go_ret
  exact ⟨rfl, Below.refl _ _⟩

def SomeRow (m : List (List Int)) (w : World) (e : Ending) (w' : World) : Prop := (∃ i : Int, e = .returned (.int .i64 i) ∧ (if m.any rowBad then 0 ≤ i else i = -1)) ∧ Below w.heap.size w w'

theorem idxRow_some (b off n cap pb : Nat) (us : List Value) (m : List (List Int)) (w : World) (hn : n = m.length) (hl : 0 < n) (hcap : n ≤ cap) (hm : cap ≤ 9223372036854775807)
    (hc : ∀ i, i < n → w.cell? ⟨b, off + i, none⟩ = some (us.getD i .nilIface)) (hr : ∀ i, i < n → SliceR w (us.getD i .nilIface) 1 intCell (m.getD i []))
    (hp : w.cell? ⟨pb, 0, none⟩ = some (.func (.func 100) #[] #[])) :
    Calls Try.prog 110 #[.slice (some ⟨b, off, none⟩) n cap, .func (.func 102) #[] #[.pointer (some ⟨pb, 0, none⟩)]] w (SomeRow m w) := by
  have HC := Lib.hid hc
  have HR := Lib.hid hr
  have HN := Lib.hid hn
  have HP := Lib.hid hp
  clear hn hc hr hp
  have hl' : (0 : Int) < (n : Int) := by omega
  go_enter Try.func110, Try.ntmps110
  go_wp2_with fail
  go_loopw [5, 8] (fun _ i wr => ∃ k : Nat, k ≤ n ∧ i = .int .i64 (k : Int) ∧ Hid (∀ j, j < k → rowBad (m.getD j []) = false) ∧ Below w.heap.size w wr) (fun _ i _ => n - (intOf i).toNat)
  case atStart => exact ⟨0, Nat.zero_le _, rfl, (fun j hj => absurd hj (Nat.not_lt_zero _)), Below.refl _ _⟩
  case round =>
    obtain ⟨k, hk, rfl, hno, hb⟩ := hrel
    by_cases hlt : k < n
    · have hk0 : (0 : Int) ≤ (k : Int) := by omega
      have hk1 : (k : Int) < (n : Int) := by omega
      have c0 := keep hb (HC.out k hlt)
      have r0 := (HR.out k hlt).below (fun _ => rfl) hb
      have p0 := keep hb HP.out
      obtain ⟨u, hu⟩ : ∃ u, u = us.getD k .nilIface := ⟨_, rfl⟩
      rw [← hu] at c0 r0
      clear hu
      obtain ⟨x, hx⟩ : ∃ x, x = m.getD k [] := ⟨_, rfl⟩
      rw [← hx] at r0
      have HX := Lib.hid hx
      clear hx
      obtain ⟨c, hc⟩ : ∃ c, c = rowBad x := ⟨_, rfl⟩
      have L := rowBad_any r0 p0
      rw [← hc] at L
      obtain ⟨ua, ucap, hua, _⟩ := r0
      subst hua
      have HL := Lib.hid L
      have HLC := Lib.hid hc
      clear L hc p0
      cases c
      all_goals
        go_wp2_with fail
        refine HL.out.mono ?_
        rintro e w1 ⟨rfl, hb1⟩
        have hb2 := hb.trans (hb1.mono hb.size)
        clear hb hb1 c0
        go_wp2_with fail
      · go_roundw
        case rel =>
          refine ⟨k + 1, by omega, by go_num, fun j hj => ?_, hb2⟩
          by_cases hjk : j < k
          · exact hno.out j hjk
          · obtain rfl : j = k := by omega
            rw [← HX.out, ← HLC.out]
        case measure => simp [intOf]; omega
      · go_ret
        refine ⟨⟨k, rfl, ?_⟩, hb2⟩
        have : m.any rowBad = true := by
          rw [List.any_eq_true]
          have h1 := HN.out
          refine ⟨x, ?_, HLC.out.symm⟩
          rw [HX.out]
          simp [List.getD, show k < m.length by omega]
        rw [if_pos this]
        omega
    · obtain rfl : k = n := by omega
      have hlt' : ¬ (k : Int) < (k : Int) := by omega
      go_wp2_with fail
      go_ret
      refine ⟨⟨-1, rfl, ?_⟩, hb⟩
      have : m.any rowBad = false := by
        rw [List.any_eq_false]
        intro y hy
        obtain ⟨j, hj, rfl⟩ := List.getElem_of_mem hy
        have h1 := HN.out
        have h2 := hno.out j (by omega)
        simpa [List.getD, hj] using h2
      rw [this]
      rfl

theorem contRow_any {v : Value} {m : List (List Int)} {w : World} {pb : Nat} (h : RowsR w v m) (hp : w.cell? ⟨pb, 0, none⟩ = some (.func (.func 100) #[] #[])) :
    Calls Try.prog 101 #[v, .func (.func 102) #[] #[.pointer (some ⟨pb, 0, none⟩)]] w fun e w' => e = .returned (.bool (m.any rowBad)) ∧ Below w.heap.size w w' := by
  obtain ⟨us, h1, h2, h3⟩ := h
  obtain ⟨a, cap, rfl, hcap, hm, _, hc⟩ := h1.one (c := fun u => u) .nilIface
  have K : Calls Try.prog 110 #[.slice a us.length cap, .func (.func 102) #[] #[.pointer (some ⟨pb, 0, none⟩)]] w (SomeRow m w) := by
    by_cases hl : us.length = 0
    · have : m = [] := List.length_eq_zero_iff.1 (by omega)
      subst this
      rw [hl]
      exact (idxRow_none a cap _ w).mono fun e w' ⟨h1, h2⟩ => ⟨⟨-1, h1, by simp⟩, h2⟩
    · obtain ⟨b, off, rfl, hd⟩ := hc (by omega)
      unfold maxLen at hm
      exact idxRow_some b off _ cap pb us m w h2 (by omega) hcap hm hd (fun i hi => h3 i (by omega)) hp
  have HK := Lib.hid K
  clear K hc h3 hp h2
  obtain ⟨c, hc⟩ : ∃ c, c = m.any rowBad := ⟨_, rfl⟩
  rw [← hc]
  have HCC := Lib.hid hc
  clear hc
  go_enter Try.func101, Try.ntmps101
  go_wp2_with fail
  refine HK.out.mono ?_
  rintro e w1 ⟨⟨i, rfl, hi⟩, hb⟩
  rw [← HCC.out] at hi
  cases c
  · simp only [Bool.false_eq_true, if_false] at hi
    subst hi
    go_wp2_with fail
    go_ret
    exact ⟨rfl, hb⟩
  · rw [if_pos rfl] at hi
    go_wp2_with fail
    go_ret
    exact ⟨rfl, hb⟩

def okC (m : List (List Int)) : Bool := decide (m.length = 4) && !m.any rowBad

theorem comCheck_any {v : Value} {m : List (List Int)} {w : World} (h : RowsR w v m) :
    Calls Try.prog 75 #[v] w fun e w' => e = .returned (.int .i64 (if okC m then 0 else 8)) ∧ Below w.heap.size w w' := by
  have h0 := Lib.hid h
  obtain ⟨us, h1, h2, h3⟩ := h
  obtain ⟨a, cap, rfl, hcap, hm, _, hc⟩ := h1.one (c := fun u => u) .nilIface
  clear hc h3 h1
  obtain ⟨n, hn⟩ : ∃ n, n = us.length := ⟨_, rfl⟩
  rw [← hn] at h0 hcap ⊢
  rw [← hn] at h2
  by_cases h4 : n = 4
  · have e4 : okC m = !m.any rowBad := by simp [okC, ← h2, h4]
    rw [e4]
    obtain ⟨c, hc⟩ : ∃ c, c = m.any rowBad := ⟨_, rfl⟩
    rw [← hc]
    have HLC := Lib.hid hc
    clear hc e4 h2 hn
    have hd : ((n : Int) != 4) = false := by simp; omega
    clear h4
    go_enter Try.func75, Try.ntmps75
    go_wp2_with fail
    refine (contRow_any (h0.out.below ?_) ?_).mono ?_
    · exact ((Below.refl _ _).alloc (Nat.le_refl _) _)
    · go_simp
    rintro e w1 ⟨rfl, hb⟩
    rw [← HLC.out]
    have hb' : Below w.heap.size w w1 := ((Below.refl _ _).alloc (Nat.le_refl _) _).trans (hb.mono (by simp))
    clear hb
    cases c
    all_goals
      go_wp2_with fail
      go_ret
      exact ⟨rfl, hb'⟩
  · have e4 : okC m = false := by simp [okC, ← h2, h4]
    rw [e4]
    have hd : ((n : Int) != 4) = true := by simp; omega
    clear h4 e4 h0 hn h2
    go_enter Try.func75, Try.ntmps75
    go_wp2_with fail
    go_ret
    exact ⟨rfl, by repeat (first | exact Below.refl _ _ | (refine Below.setCell ?_ (by simp) _) | (refine Below.alloc ?_ (by simp) _))⟩

end Go.Proofs.Ytblgmjbajnkcdab
/-
  A slice of rows of numbers that a call itself made. No program in sight.
-/
namespace Go.Proofs.Ytblgmjbajnkcdab
open Go.RowKit

theorem RowsR.shape {w : World} {v : Value} {m : List (List Int)} (h : RowsR w v m) : ∃ (a : Option Addr) (n cap : Nat), v = .slice a n cap := by
  obtain ⟨us, ⟨a, cap, hv, _⟩, _⟩ := h
  exact ⟨a, _, cap, hv⟩

theorem rows_apart {w : World} {b1 b2 : Nat} {e1 e2 : TypeId} {s1 s2 n1 n2 : Nat} {v1 v2 : Value} {xs1 xs2 : List Value} (h1 : w.ownsRow b1 e1 s1 v1 n1 xs1) (h2 : w.ownsRow b2 e2 s2 v2 n2 xs2) (he : e1 ≠ e2) :
    v1.ownBlock = none ∨ v1.ownBlock ≠ v2.ownBlock := by
  rcases h1.2 with ⟨rfl, _⟩ | ⟨g1, c1, cur1, rfl, _, hh1, _⟩
  · exact Or.inl rfl
  · rcases h2.2 with ⟨rfl, _⟩ | ⟨g2, c2, cur2, rfl, _, hh2, _⟩
    · exact Or.inr (by simp [Value.ownBlock])
    · refine Or.inr ?_
      simp only [Value.ownBlock, ne_eq, Option.some.injEq]
      intro hg
      rw [hg, hh2] at hh1
      simp at hh1
      exact he hh1.2.symm

theorem ownsRow_below {w w' : World} {B b : Nat} {e : TypeId} {s n : Nat} {v : Value} {xs : List Value} (h : w.ownsRow b e s v n xs) (hb : Below B w w') (hlt : ∀ k, v.ownBlock = some k → k < B) : w'.ownsRow b e s v n xs := by
  refine ⟨h.1, ?_⟩
  rcases h.2 with h0 | ⟨g, cap, cur, rfl, hg, hh, r⟩
  · exact Or.inl h0
  · exact Or.inr ⟨g, cap, cur, rfl, hg, by rw [hb.block g (hlt g rfl)]; exact hh, r⟩
theorem ownsRow_keep {w w' : World} {b : Nat} {e : TypeId} {s n : Nat} {v : Value} {xs : List Value} (h : w.ownsRow b e s v n xs) (hb : Below w.heap.size w w') : w'.ownsRow b e s v n xs :=
  ownsRow_below h hb (fun k hk => (h.lt k hk).2)

def rowVals (r : List Int) : List Value := r.map fun n => .int .i64 n
theorem rowVals_get {r : List Int} {i : Nat} (h : i < r.length) : (rowVals r)[i]? = some (.int .i64 (r.getD i 0)) := by
  simp [rowVals, List.getD, h]
theorem rowVals_flat (r : List Int) : rowVals r = r.flatMap intCell := by
  induction r with
  | nil => rfl
  | cons x r ih => rw [List.flatMap_cons, ← ih]; rfl

/-- The slice v is the call's own, and so are its rows; they read as m. te: the type of a row, ti: of a number. -/
def OwnRows (te ti : TypeId) (w : World) (base : Nat) (v : Value) (m : List (List Int)) : Prop :=
  ∃ us : List Value, w.ownsRow base te 1 v us.length us ∧ us.length = m.length ∧ (∀ i, i < m.length → w.ownsRow base ti 1 (us.getD i .nilIface) (m.getD i []).length (rowVals (m.getD i []))) ∧
    ∀ i j, i < m.length → j < m.length → i ≠ j → (us.getD i .nilIface).ownBlock = none ∨ (us.getD i .nilIface).ownBlock ≠ (us.getD j .nilIface).ownBlock

theorem flat_one (us : List Value) : us.flatMap oneCell = us := by
  induction us with
  | nil => rfl
  | cons x r ih => rw [List.flatMap_cons, ih]; rfl

theorem OwnRows.reads {te ti : TypeId} {w : World} {base : Nat} {v : Value} {m : List (List Int)} (h : OwnRows te ti w base v m) : RowsR w v m := by
  obtain ⟨us, h1, h2, h3, _⟩ := h
  refine ⟨us, sliceR_of_owns (cells := oneCell) (fun _ => rfl) (by rw [flat_one]; exact h1), h2, fun i hi => ?_⟩
  exact sliceR_of_owns (cells := intCell) (fun _ => rfl) (by rw [← rowVals_flat]; exact h3 i hi)

theorem OwnRows.keep {te ti : TypeId} {w w' : World} {base : Nat} {v : Value} {m : List (List Int)} (h : OwnRows te ti w base v m) (hb : Below w.heap.size w w') : OwnRows te ti w' base v m := by
  obtain ⟨us, h1, h2, h3, h4⟩ := h
  exact ⟨us, ownsRow_keep h1 hb, h2, fun i hi => ownsRow_keep (h3 i hi) hb, h4⟩

theorem ownsRow_le {w : World} {base base' size n : Nat} {e : TypeId} {v : Value} {xs : List Value} (h : w.ownsRow base e size v n xs) (hb : base' ≤ base) : w.ownsRow base' e size v n xs :=
  ⟨h.1, h.2.elim Or.inl (fun ⟨g, cap, cur, hv, hg, r⟩ => Or.inr ⟨g, cap, cur, hv, Nat.le_trans hb hg, r⟩)⟩
theorem OwnRows.le {te ti : TypeId} {w : World} {base base' : Nat} {v : Value} {m : List (List Int)} (h : OwnRows te ti w base v m) (hb : base' ≤ base) : OwnRows te ti w base' v m := by
  obtain ⟨us, h1, h2, h3, h4⟩ := h
  exact ⟨us, ownsRow_le h1 hb, h2, fun i hi => ownsRow_le (h3 i hi) hb, h4⟩
theorem OwnRows.drew {te ti : TypeId} {w : World} {base : Nat} {v : Value} {m : List (List Int)} (h : OwnRows te ti w base v m) : OwnRows te ti w.drew base v m := h

theorem OwnRows.nil (te ti : TypeId) (w : World) (base : Nat) : OwnRows te ti w base (.slice none 0 0) [] :=
  ⟨[], World.ownsRow_nil _ _ _ _, rfl, fun _ hi => absurd hi (Nat.not_lt_zero _), fun _ _ hi => absurd hi (Nat.not_lt_zero _)⟩

theorem getD_append_left {α : Type} {l m : List α} {d : α} {i : Nat} (h : i < l.length) : (l ++ m).getD i d = l.getD i d := by simp [List.getD, List.getElem?_append_left h]
theorem getD_append_new {α : Type} {l : List α} {x d : α} : (l ++ [x]).getD l.length d = x := by simp [List.getD]

/-- One row more: the row was there (made ahead of the append, in a block that no other row has); the append wrote the outer slice's own block alone. -/
theorem OwnRows.snoc {te ti : TypeId} {w w' : World} {base : Nat} {v v' x : Value} {m : List (List Int)} {r : List Int} {us : List Value} (hne : ti ≠ te) (hu : w.ownsRow base te 1 v us.length us) (hl : us.length = m.length)
    (hin : ∀ i, i < m.length → w.ownsRow base ti 1 (us.getD i .nilIface) (m.getD i []).length (rowVals (m.getD i [])))
    (hap : ∀ i j, i < m.length → j < m.length → i ≠ j → (us.getD i .nilIface).ownBlock = none ∨ (us.getD i .nilIface).ownBlock ≠ (us.getD j .nilIface).ownBlock)
    (hx : w.ownsRow base ti 1 x r.length (rowVals r)) (hnew : ∀ i, i < m.length → ∀ k, (us.getD i .nilIface).ownBlock = some k → x.ownBlock ≠ some k)
    (hv : w'.ownsRow base te 1 v' (us.length + 1) (us ++ [x])) (hg : w.grownBy w' v.ownBlock) : OwnRows te ti w' base v' (m ++ [r]) := by
  have new : ∀ i, i < m.length → (us.getD i .nilIface).ownBlock = none ∨ (us.getD i .nilIface).ownBlock ≠ x.ownBlock := fun i hi => by
    cases h : (us.getD i .nilIface).ownBlock with
    | none => exact Or.inl rfl
    | some k => exact Or.inr (fun e => hnew i hi k h e.symm)
  have new' : ∀ i, i < m.length → x.ownBlock = none ∨ x.ownBlock ≠ (us.getD i .nilIface).ownBlock := fun i hi => by
    cases h : x.ownBlock with
    | none => exact Or.inl rfl
    | some k => exact Or.inr (fun e => hnew i hi k e.symm h)
  refine ⟨us ++ [x], by simpa using hv, by simp [hl], fun i hi => ?_, fun i j hi hj hij => ?_⟩
  · by_cases h : i < m.length
    · rw [getD_append_left (by omega), getD_append_left h]
      exact (hin i h).kept hg (rows_apart (hin i h) hu hne)
    · have : i = m.length := by simp at hi; omega
      subst this
      rw [getD_append_new, ← hl, getD_append_new]
      exact hx.kept hg (rows_apart hx hu hne)
  · simp at hi hj
    by_cases h : i < m.length
    · rw [getD_append_left (by omega)]
      by_cases h2 : j < m.length
      · rw [getD_append_left (by omega)]
        exact hap i j h h2 hij
      · have : j = us.length := by omega
        rw [this, getD_append_new]
        exact new i h
    · have : i = us.length := by omega
      have hj' : j < m.length := by omega
      rw [this, getD_append_new, getD_append_left (by omega)]
      exact new' j hj'

theorem splice_all {α : Type} (L cs : List α) (h : cs.length = L.length) : splice L 0 cs = cs := by
  simp [splice, h]

end Go.Proofs.Ytblgmjbajnkcdab
/-
  commits.Twin, commits.New and the document's: new rows. No condition but that the slices read and are not great.
-/
namespace Go.Proofs.Ytblgmjbajnkcdab
open Go.RowKit

abbrev OwnC (w : World) (base : Nat) (v : Value) (m : List (List Int)) : Prop := OwnRows 43 3 w base v m

theorem info_int : (Try.prog.info? 3).map (fun i => (i.zero, i.size, i.bytes)) = some (some (.int .i64 0), 1, 8) := by kernel_rfl
theorem info_row : (Try.prog.info? 43).map (fun i => (i.zero, i.size, i.bytes)) = some (some (.slice none 0 0), 1, 24) := by kernel_rfl
theorem size_int : (Try.prog.info? 3).map (·.size) = some 1 := by kernel_rfl

/-- Not great: at most 1000 numbers and rows. -/
def few (m : List (List Int)) : Prop := m.length ≤ 1000 ∧ ∀ r ∈ m, r.length ≤ 1000

theorem rowVals_one (r : List Int) : ∀ v ∈ rowVals r, v.oneCell' = true := by
  intro v hv
  simp only [rowVals, List.mem_map] at hv
  obtain ⟨y, _, rfl⟩ := hv
  rfl

def TwinEnd (m : List (List Int)) (w : World) (e : Ending) (w' : World) : Prop := ∃ v', e = .returned v' ∧ OwnC w' w.heap.size v' m ∧ Below w.heap.size w w'

set_option maxHeartbeats 4000000 in
theorem twin_some (b off n cap : Nat) (us : List Value) (m : List (List Int)) (w : World) (hn : n = m.length) (hcap : n ≤ cap) (hm : n ≤ 1000) (hfew : ∀ r ∈ m, r.length ≤ 1000)
    (hc : ∀ i, i < n → w.cell? ⟨b, off + i, none⟩ = some (us.getD i .nilIface)) (hr : ∀ i, i < n → SliceR w (us.getD i .nilIface) 1 intCell (m.getD i [])) :
    Calls Try.prog 88 #[.slice (some ⟨b, off, none⟩) n cap] w (TwinEnd m w) := by
  obtain ⟨i0, hi, hz0, hz1, hz2⟩ := info_parts info_row
  obtain ⟨i1, gi, gz0, gz1, gz2⟩ := info_parts info_int
  have HC := Lib.hid hc
  have HR := Lib.hid hr
  have HN := Lib.hid hn
  have HF := Lib.hid hfew
  have n0 : (n : Int) ≤ 1000 := by omega
  obtain ⟨B, hB⟩ : ∃ B, B = w.heap.size := ⟨_, rfl⟩
  have HB := Lib.hid hB
  clear hn hc hr hfew hB
  go_enter Try.func88, Try.ntmps88
  go_wp2_with fail
  go_loopw [3, 9] (fun o i wr => ∃ k : Nat, k ≤ n ∧ i = .int .i64 (k : Int) ∧ Hid (OwnC wr B o (m.take k)) ∧ Hid (Below B w wr)) (fun _ i _ => n - (intOf i).toNat)
  case atStart => exact ⟨0, Nat.zero_le _, rfl, OwnRows.nil _ _ _ _, Below.refl _ _⟩
  case round =>
    obtain ⟨k, hk, rfl, hown, hb⟩ := hrel
    by_cases hlt : k < n
    · have hk0 : (0 : Int) ≤ (k : Int) := by omega
      have hk1 : (k : Int) < (n : Int) := by omega
      have hbw : Below w.heap.size w wr := by rw [← HB.out]; exact hb.out
      have hBr : B ≤ wr.heap.size := by rw [HB.out]; exact hbw.size
      have c0 := keep hbw (HC.out k hlt)
      have r0 := (HR.out k hlt).below (fun _ => rfl) hbw
      obtain ⟨u, hu⟩ : ∃ u, u = us.getD k .nilIface := ⟨_, rfl⟩
      rw [← hu] at c0 r0
      clear hu
      obtain ⟨r, hr⟩ : ∃ r, r = m.getD k [] := ⟨_, rfl⟩
      rw [← hr] at r0
      have hrl : r.length ≤ 1000 := by
        have h1 := HN.out
        have : m.getD k [] ∈ m := by
          have e : m.getD k [] = m[k]'(by omega) := by simp [List.getD, show k < m.length by omega]
          rw [e]; exact List.getElem_mem _
        rw [hr]
        exact HF.out _ this
      have HRR := Lib.hid hr
      clear hr
      have r1 := r0
      obtain ⟨ua, ucap, hua, huc, _, hun, hud⟩ := r1
      subst hua
      have R0 := Lib.hid r0
      obtain ⟨us', h1, h2, h3, h4⟩ := hown.out
      have HO4 := Lib.hid h4
      have HO1 := Lib.hid h1
      have HO2 := Lib.hid h2
      have HO3 := Lib.hid h3
      have HUD := Lib.hid hud
      have hul : us'.length ≤ 1000 := by
        rw [h2, List.length_take]
        have := HN.out
        omega
      clear r0 hun hud hown h1 h2 h3 h4 hbw
      go_wp2_with (at_make; go_must (refine wpList_make_full _ rfl _ _ 43 rfl B 3 i1 (.int .i64 0) 1 Try.underlying43 gi gz0 gz1 .i64 .i64 _ _ r.length rfl rfl rfl rfl (by rw [gz2]; omega) (by unfold maxLen; omega) hBr ?_))
      intro w1 hx hg1
      obtain ⟨cur, hcur, hcl⟩ : ∃ cur : List Value, w1.heap[wr.heap.size]? = some (.cells cur.toArray 3 (0, 0)) ∧ cur.length = r.length := by
        rcases hx.2 with ⟨h0, _⟩ | ⟨g, cp, cr, e1, _, e2, _, _, e5, _⟩
        · cases h0
        · cases e1
          exact ⟨cr.toList, by simpa using e2, by simpa using e5⟩
      have HCU := Lib.hid hcur
      have HFIT := Lib.hid (show 0 + (rowVals r).length ≤ cur.length by simp [rowVals, hcl])
      have HNN := Lib.hid (show (rowVals r).length = Nat.min r.length r.length by simp [rowVals])
      clear hx hcur
      have hps : 0 < (rowVals r).length → (some ⟨wr.heap.size, 0, none⟩ : Option Addr) = some ⟨wr.heap.size, 0, none⟩ ∧ ∃ ad, ua = some ad ∧ ∀ j v, (rowVals r)[j]? = some v → w1.cell? (ad.add j) = some v := by
        intro hpos
        refine ⟨rfl, ?_⟩
        have hpos' : 0 < r.length := by simpa [rowVals] using hpos
        obtain ⟨ub, uoff, e1, _⟩ := HUD.out hpos'
        subst e1
        refine ⟨_, rfl, fun j v hv => ?_⟩
        exact (R0.out.below (fun _ => rfl) (belowGrown hg1)).flat (fun _ => rfl) (by omega) j v (by rw [← rowVals_flat]; exact hv)
      have HPS := Lib.hid hps
      clear hps
      go_wp2_with (with_reducible refine wpList_copy_splice (o := ⟨some 18, _, _, _, _, _⟩) rfl _ _ 43 43 rfl 3 Try.underlying43 size_int (some ⟨wr.heap.size, 0, none⟩) ua r.length r.length r.length ucap rfl rfl wr.heap.size 0 cur 3 HCU.out (rowVals r) HNN.out HPS.out HFIT.out (rowVals_one r) wr.heap.size w1 (Below.refl _ _) (Nat.le_refl _) ?_)
      intro w2 hw2 hb2
      have hbr : Below wr.heap.size wr w2 := (belowGrown hg1).trans hb2
      have hx2 : w2.ownsRow B 3 1 (.slice (some ⟨wr.heap.size, 0, none⟩) r.length r.length) r.length (rowVals r) := by
        have h5 := hw2.out
        rw [splice_all cur (rowVals r) (by simp [rowVals, hcl])] at h5
        refine ⟨by simp [rowVals], Or.inr ⟨_, r.length, _, rfl, hBr, h5, Nat.le_refl _, by unfold maxLen; omega, by simp [rowVals], List.take_of_length_le (by simp [rowVals])⟩⟩
      have hO1 := ownsRow_keep HO1.out hbr
      have hO3 : ∀ i, i < (m.take k).length → w2.ownsRow B 3 1 (us'.getD i .nilIface) ((m.take k).getD i []).length (rowVals ((m.take k).getD i [])) := fun i hi => ownsRow_keep (HO3.out i hi) hbr
      have HX2 := Lib.hid hx2
      have HQ1 := Lib.hid hO1
      have HQ3 := Lib.hid hO3
      have HBR := Lib.hid hbr
      clear hx2 hO1 hO3 hbr hw2 hb2 hg1 c0
      go_wp2_with (at_builtin; go_must (refine wpList_append_own _ rfl _ _ 23 rfl B 43 i0 (.slice none 0 0) 1 24 Try.underlying23 hi hz0 hz1 hz2 rfl (by decide) _ us'.length us' rfl (HQ1.out.alloc _) ⟨w2.heap.size, 0, none⟩ 1 1 [.slice (some ⟨wr.heap.size, 0, none⟩) r.length r.length] rfl rfl ?_ (by intro v hv; simp at hv; subst hv; rfl) (by unfold maxLen; omega) (by omega) (by have := HBR.out.size; simp; omega) ?_))
      · intro j v hv
        match j, hv with
        | 0, hv => simp at hv; subst hv; simp [Addr.add]
      · intro v' w3 hown3 hgrow3 _
        have R := OwnRows.snoc (te := 43) (ti := 3) (by decide) (HQ1.out.alloc (.cells #[.slice (some ⟨wr.heap.size, 0, none⟩) r.length r.length] 43)) HO2.out (fun i hi => (HQ3.out i hi).alloc _) HO4.out (HX2.out.alloc _) (fun i hi j hj => by have := ((HO3.out i hi).lt j hj).2; simp only [Value.ownBlock, ne_eq, Option.some.injEq]; omega) hown3 hgrow3
        have hb3 : Below B w w3 := by
          refine Below.grown (hb.out.trans ((HBR.out.mono hBr).trans ((Below.refl _ _).alloc (by have := HBR.out.size; omega) _))) hgrow3 (by have := HBR.out.size; simp; omega) (fun j hj => ?_)
          exact (HQ1.out.lt j hj).1
        have HR3 := Lib.hid R
        have HB3 := Lib.hid hb3
        clear hown3 hgrow3 R hb3
        go_wp2_with fail
        go_roundw
        case rel =>
          refine ⟨k + 1, by omega, by go_num, ?_, HB3⟩
          have e : m.take (k + 1) = m.take k ++ [r] := by
            have h1 := HN.out
            rw [List.take_succ_eq_append_getElem (by omega), HRR.out]
            simp [List.getD, show k < m.length by omega]
          show OwnC w3 B v' (m.take (k + 1))
          rw [e]
          exact HR3.out
        case measure => simp [intOf]; omega
    · obtain rfl : k = n := by omega
      have hlt' : ¬ (k : Int) < (k : Int) := by omega
      go_wp2_with fail
      go_ret
      refine ⟨_, rfl, ?_, ?_⟩
      · have e : m.take k = m := by rw [HN.out]; exact List.take_length
        have h1 := hown.out
        rw [e, HB.out] at h1
        exact h1
      · rw [← HB.out]; exact hb.out

theorem twin_none (a : Option Addr) (cap : Nat) (w : World) : Calls Try.prog 88 #[.slice a 0 cap] w (TwinEnd [] w) := by
  go_enter Try.func88, Try.ntmps88
  go_wp2_with fail
  refine wp_loop_rounds 1 ?_
  rw [rounds_succ]
  go_wp2
  go_ret
  exact ⟨_, rfl, OwnRows.nil _ _ _ _, Below.refl _ _⟩

theorem twin_any {v : Value} {m : List (List Int)} {w : World} (h : RowsR w v m) (hf : few m) : Calls Try.prog 88 #[v] w (TwinEnd m w) := by
  obtain ⟨us, h1, h2, h3⟩ := h
  obtain ⟨a, cap, rfl, hcap, hm, _, hc⟩ := h1.one (c := fun u => u) .nilIface
  by_cases hl : us.length = 0
  · have : m = [] := List.length_eq_zero_iff.1 (by omega)
    subst this
    rw [hl]
    exact twin_none a cap w
  · obtain ⟨b, off, rfl, hd⟩ := hc (by omega)
    exact twin_some b off _ cap us m w h2 hcap (by rw [h2]; exact hf.1) hf.2 hd (fun i hi => h3 i (by omega))

end Go.Proofs.Ytblgmjbajnkcdab
/-
  commits.asked, commits.Get, commits.Set. No condition but that the slices read and are not great.
-/
namespace Go.Proofs.Ytblgmjbajnkcdab
open Go.RowKit

def inTW (t k : Int) : Bool := decide (0 ≤ t ∧ t < 4 ∧ 0 ≤ k ∧ k < 8)
def inN (n : Int) : Bool := decide (0 ≤ n ∧ n ≤ 1073741824)
def askC (m : List (List Int)) (t k : Int) : Int := if okC m then (if inTW t k then 0 else 2) else 8
def getC (m : List (List Int)) (t k : Int) : Int := (m.getD t.toNat []).getD k.toNat 0
def setC (m : List (List Int)) (t k n : Int) : List (List Int) := m.set t.toNat ((m.getD t.toNat []).set k.toNat (max (getC m t k) n))

theorem okC_spec {m : List (List Int)} (h : okC m = true) : m.length = 4 ∧ ∀ r ∈ m, r.length = 8 ∧ ∀ x ∈ r, 0 ≤ x ∧ x ≤ 1073741824 := by
  simp only [okC, Bool.and_eq_true, decide_eq_true_eq, Bool.not_eq_true'] at h
  refine ⟨h.1, fun r hr => ?_⟩
  have h2 := List.any_eq_false.1 h.2 r hr
  simp only [rowBad, Bool.or_eq_true, decide_eq_true_eq, not_or, Bool.not_eq_true] at h2
  refine ⟨by omega, fun x hx => ?_⟩
  have h3 := List.any_eq_false.1 h2.2 x hx
  simp only [badI, Bool.or_eq_true, decide_eq_true_eq, not_or] at h3
  omega

theorem okC_few {m : List (List Int)} (h : okC m = true) : few m := by
  obtain ⟨h1, h2⟩ := okC_spec h
  exact ⟨by omega, fun r hr => by have := (h2 r hr).1; omega⟩

theorem asked_any {v : Value} {m : List (List Int)} (t k : Int) {w : World} (h : RowsR w v m) :
    Calls Try.prog 97 #[v, .int .i64 t, .int .i64 k] w fun e w' => e = .returned (.int .i64 (askC m t k)) ∧ Below w.heap.size w w' := by
  have K := comCheck_any h
  obtain ⟨a, na, cap, rfl⟩ := h.shape
  cases hok : okC m
  · simp only [hok, Bool.false_eq_true, if_false] at K
    have e : askC m t k = 8 := by simp [askC, hok]
    rw [e]
    have HK := Lib.hid K
    clear K hok e h
    go_enter Try.func97, Try.ntmps97
    go_wp2_with fail
    refine HK.out.mono ?_
    rintro e w1 ⟨rfl, hb⟩
    go_wp2_with fail
    go_ret
    exact ⟨rfl, hb⟩
  · simp only [hok, if_true] at K
    have HK := Lib.hid K
    by_cases hin : 0 ≤ t ∧ t < 4 ∧ 0 ≤ k ∧ k < 8
    · have e : askC m t k = 0 := by simp [askC, hok, inTW, hin]
      rw [e]
      obtain ⟨h1, h2, h3, h4⟩ := hin
      clear K hok e h
      go_enter Try.func97, Try.ntmps97
      go_wp2_with fail
      refine HK.out.mono ?_
      rintro e w1 ⟨rfl, hb⟩
      go_wp2_with fail
      go_ret
      exact ⟨rfl, hb⟩
    · have e : askC m t k = 2 := by simp only [askC, hok, if_true, inTW, decide_eq_true_eq]; rw [if_neg hin]
      rw [e]
      clear K hok e h
      by_cases h1 : t < 0
      · go_enter Try.func97, Try.ntmps97
        go_wp2_with fail
        refine HK.out.mono ?_
        rintro e w1 ⟨rfl, hb⟩
        go_wp2_with fail
        go_ret
        exact ⟨rfl, hb⟩
      · by_cases h2 : 4 ≤ t
        · go_enter Try.func97, Try.ntmps97
          go_wp2_with fail
          refine HK.out.mono ?_
          rintro e w1 ⟨rfl, hb⟩
          go_wp2_with fail
          go_ret
          exact ⟨rfl, hb⟩
        · by_cases h3 : k < 0
          · go_enter Try.func97, Try.ntmps97
            go_wp2_with fail
            refine HK.out.mono ?_
            rintro e w1 ⟨rfl, hb⟩
            go_wp2_with fail
            go_ret
            exact ⟨rfl, hb⟩
          · have h4 : 8 ≤ k := by omega
            clear hin
            go_enter Try.func97, Try.ntmps97
            go_wp2_with fail
            refine HK.out.mono ?_
            rintro e w1 ⟨rfl, hb⟩
            go_wp2_with fail
            go_ret
            exact ⟨rfl, hb⟩

/-- The cell of a number, and of its row. -/
theorem rows_cell {w : World} {v : Value} {m : List (List Int)} (h : RowsR w v m) (hok : okC m = true) {t k : Int} (h1 : 0 ≤ t) (h2 : t < 4) (h3 : 0 ≤ k) (h4 : k < 8) :
    ∃ b off cap rb roff rcap, v = .slice (some ⟨b, off, none⟩) 4 cap ∧ w.cell? ⟨b, off + t.toNat, none⟩ = some (.slice (some ⟨rb, roff, none⟩) 8 rcap) ∧ w.cell? ⟨rb, roff + k.toNat, none⟩ = some (.int .i64 (getC m t k)) := by
  obtain ⟨hl, hr⟩ := okC_spec hok
  obtain ⟨us, e1, e2, e3⟩ := h
  obtain ⟨a, cap, rfl, hcap, hm, _, hc⟩ := e1.one (c := fun u => u) .nilIface
  obtain ⟨b, off, rfl, hd⟩ := hc (by omega)
  have ht := hd t.toNat (by omega)
  have hrow := e3 t.toNat (by omega)
  have h8 : (m.getD t.toNat []).length = 8 := by
    have e : m.getD t.toNat [] = m[t.toNat]'(by omega) := by simp [List.getD, show t.toNat < m.length by omega]
    rw [e]
    exact (hr _ (List.getElem_mem _)).1
  obtain ⟨ra, rcap, hu, _, _, _, hrc⟩ := hrow.one (c := fun n => .int .i64 n) 0
  obtain ⟨rb, roff, rfl, hrd⟩ := hrc (by omega)
  have hk := hrd k.toNat (by omega)
  rw [h8] at hu
  rw [hu] at ht
  exact ⟨b, off, cap, rb, roff, rcap, by rw [e2, hl], ht, hk⟩

theorem get_any {v : Value} {m : List (List Int)} (t k : Int) {w : World} (h : RowsR w v m) :
    Calls Try.prog 71 #[v, .int .i64 t, .int .i64 k] w fun e w' => e = .returned (.tuple #[.int .i64 (if askC m t k = 0 then getC m t k else 0), .int .i64 (askC m t k)]) ∧ Below w.heap.size w w' := by
  have K := asked_any t k h
  by_cases hok : okC m = true
  · by_cases hin : 0 ≤ t ∧ t < 4 ∧ 0 ≤ k ∧ k < 8
    · have e : askC m t k = 0 := by simp [askC, hok, inTW, hin]
      obtain ⟨h1, h2, h3, h4⟩ := hin
      obtain ⟨b, off, cap, rb, roff, rcap, rfl, c1, c2⟩ := rows_cell h hok h1 h2 h3 h4
      rw [e] at K ⊢
      rw [if_pos rfl]
      obtain ⟨x, hx⟩ : ∃ x, x = getC m t k := ⟨_, rfl⟩
      rw [← hx] at c2 ⊢
      have HK := Lib.hid K
      clear K hx e h hok
      go_enter Try.func71, Try.ntmps71
      go_wp2_with fail
      refine HK.out.mono ?_
      rintro e w1 ⟨rfl, hb⟩
      have d1 := keep hb c1
      have d2 := keep hb c2
      clear c1 c2
      go_wp2_with fail
      go_ret2
      exact ⟨rfl, hb⟩
    · have e : askC m t k = 2 := by simp only [askC, hok, if_true, inTW, decide_eq_true_eq]; rw [if_neg hin]
      rw [e] at K ⊢
      have HK := Lib.hid K
      obtain ⟨a, na, cap, rfl⟩ := h.shape
      clear K e h
      go_enter Try.func71, Try.ntmps71
      go_wp2_with fail
      refine HK.out.mono ?_
      rintro e w1 ⟨rfl, hb⟩
      go_wp2_with fail
      go_ret2
      exact ⟨rfl, hb⟩
  · have e : askC m t k = 8 := by simp [askC, hok]
    rw [e] at K ⊢
    have HK := Lib.hid K
    obtain ⟨a, na, cap, rfl⟩ := h.shape
    clear K e h
    go_enter Try.func71, Try.ntmps71
    go_wp2_with fail
    refine HK.out.mono ?_
    rintro e w1 ⟨rfl, hb⟩
    go_wp2_with fail
    go_ret2
    exact ⟨rfl, hb⟩


theorem getD_set_same {α : Type} {l : List α} {i : Nat} {x d : α} (h : i < l.length) : (l.set i x).getD i d = x := by simp [List.getD, h]
theorem getD_set_other {α : Type} {l : List α} {i j : Nat} {x d : α} (h : i ≠ j) : (l.set i x).getD j d = l.getD j d := by simp [List.getD, List.getElem?_set_ne h]
theorem rowVals_set (r : List Int) (i : Nat) (x : Int) : rowVals (r.set i x) = (rowVals r).set i (.int .i64 x) := by simp [rowVals, List.map_set]

/-- What the store of a number needs, and what it leaves. -/
theorem own_cells {w : World} {base : Nat} {v : Value} {m : List (List Int)} (h : OwnC w base v m) (hok : okC m = true) {t k : Int} (h1 : 0 ≤ t) (h2 : t < 4) (h3 : 0 ≤ k) (h4 : k < 8) :
    ∃ g cap gt rcap, v = .slice (some ⟨g, 0, none⟩) 4 cap ∧ w.cell? ⟨g, t.toNat, none⟩ = some (.slice (some ⟨gt, 0, none⟩) 8 rcap) ∧ w.cell? ⟨gt, k.toNat, none⟩ = some (.int .i64 (getC m t k)) ∧ w.frozen? ⟨gt, k.toNat, none⟩ = false ∧ base ≤ gt ∧
      ∀ x, OwnC (w.setCell ⟨gt, k.toNat, none⟩ (.int .i64 x)) base v (m.set t.toNat ((m.getD t.toNat []).set k.toNat x)) := by
  obtain ⟨hl, hr⟩ := okC_spec hok
  obtain ⟨us, e1, e2, e3, e4⟩ := h
  have htl : t.toNat < m.length := by omega
  have h8 : (m.getD t.toNat []).length = 8 := by
    have e : m.getD t.toNat [] = m[t.toNat] := by simp [List.getD, htl]
    rw [e]
    exact (hr _ (List.getElem_mem _)).1
  have hrow := e3 t.toNat htl
  rw [h8] at hrow
  obtain ⟨g, cap, hv⟩ : ∃ g cap, v = .slice (some ⟨g, 0, none⟩) us.length cap := by
    rcases e1.2 with ⟨_, h0⟩ | ⟨g, cap, _, hv, _⟩
    · omega
    · exact ⟨g, cap, hv⟩
  obtain ⟨gt, rcap, hu⟩ : ∃ gt rcap, us.getD t.toNat .nilIface = .slice (some ⟨gt, 0, none⟩) 8 rcap := by
    rcases hrow.2 with ⟨_, h0⟩ | ⟨g, cap, _, hv, _⟩
    · omega
    · exact ⟨g, cap, hv⟩
  subst hv
  have c1 := e1.cellAt t.toNat (by omega)
  have c1' : w.cell? ⟨g, t.toNat, none⟩ = some (.slice (some ⟨gt, 0, none⟩) 8 rcap) := by
    rw [c1, ← hu]
    simp [List.getD, show t.toNat < us.length by omega]
  have hrow' := hrow
  rw [hu] at hrow'
  have c2 := hrow'.cellAt k.toNat (by omega)
  have c2' : w.cell? ⟨gt, k.toNat, none⟩ = some (.int .i64 (getC m t k)) := by
    rw [c2]
    exact rowVals_get (by omega)
  refine ⟨g, cap, gt, rcap, by rw [e2, hl], c1', c2', hrow'.frozenAt _, (hrow'.lt gt rfl).1, fun x => ?_⟩
  obtain ⟨st, _⟩ := hrow'.stored k.toNat (.int .i64 x)
  have hne : (Value.slice (some ⟨g, 0, none⟩) us.length cap).ownBlock ≠ some gt := by
    rcases rows_apart hrow' e1 (by decide) with h0 | h0
    · simp [Value.ownBlock] at h0
    · simpa [Value.ownBlock] using fun e => h0 (by simp [Value.ownBlock, e])
  refine ⟨us, ownsRow_setCell_other e1 hne _, by simpa using e2, fun i hi => ?_, fun i j hi hj hij => e4 i j (by simpa using hi) (by simpa using hj) hij⟩
  have hi' : i < m.length := by simpa using hi
  by_cases hit : i = t.toNat
  · subst hit
    rw [getD_set_same htl, rowVals_set, List.length_set, h8, hu]
    exact st
  · rw [getD_set_other (fun e => hit e.symm)]
    refine ownsRow_setCell_other (e3 i hi') ?_ _
    rcases e4 i t.toNat hi' htl hit with h0 | h0
    · rw [h0]; simp
    · rw [hu] at h0
      exact h0

def SetYes (m : List (List Int)) (t k n : Int) (w : World) (e : Ending) (w' : World) : Prop := ∃ v', e = .returned (.tuple #[v', .int .i64 0]) ∧ OwnC w' w.heap.size v' (setC m t k n) ∧ Below w.heap.size w w'

set_option maxHeartbeats 1000000 in
theorem set_yes {v : Value} {m : List (List Int)} (t k n : Int) {w : World} (h : RowsR w v m) (hok : okC m = true) (h1 : 0 ≤ t) (h2 : t < 4) (h3 : 0 ≤ k) (h4 : k < 8) (h5 : 0 ≤ n) (h6 : n ≤ 1073741824) :
    Calls Try.prog 104 #[v, .int .i64 t, .int .i64 k, .int .i64 n] w (SetYes m t k n w) := by
  have K := asked_any t k h
  have e : askC m t k = 0 := by simp [askC, hok, inTW, h1, h2, h3, h4]
  rw [e] at K
  have HK := Lib.hid K
  have H0 := Lib.hid h
  have HOK := Lib.hid hok
  obtain ⟨a, na, cap, rfl⟩ := h.shape
  clear K e hok h
  go_enter Try.func104, Try.ntmps104
  go_wp2_with fail
  refine HK.out.mono ?_
  rintro e w1 ⟨rfl, hb⟩
  go_wp2_with fail
  refine (twin_any (H0.out.below hb) (okC_few HOK.out)).mono ?_
  rintro e w2 ⟨v', rfl, hown, hb2⟩
  obtain ⟨g, cap', gt, rcap, rfl, c1, c2, c3, hbg, hst⟩ := own_cells hown HOK.out h1 h2 h3 h4
  obtain ⟨x, hx⟩ : ∃ x, x = getC m t k := ⟨_, rfl⟩
  rw [← hx] at c2
  have HX := Lib.hid hx
  have HST := Lib.hid hst
  have hbb : Below w.heap.size w w2 := hb.trans (hb2.mono hb.size)
  have hz : w.heap.size ≤ gt := Nat.le_trans hb.size hbg
  clear hx hst hown
  have t1 : (t : Int) < ((4 : Nat) : Int) := by omega
  have k1 : (k : Int) < ((8 : Nat) : Int) := by omega
  by_cases hxn : x < n
  all_goals
    go_wp2_with fail
    refine wp_region_still_tail 15 (by kernel_rfl) (by kernel_rfl) ?_
    simp only [List.take_succ_cons, List.take_zero, List.drop_succ_cons, List.drop_zero]
    change wpStill _ _ (World.drew _) _ _ _
    repeat still_step
    refine wpStill_nil ?_
    change wpList _ _ _ _ _ (World.drew _)
    go_wp2_with fail
    go_ret2
    refine ⟨_, rfl, ?_, (hbb.setCell (p := ⟨gt, k.toNat, none⟩) hz _).drew⟩
    have e : setC m t k n = m.set t.toNat ((m.getD t.toNat []).set k.toNat (max x n)) := by rw [HX.out]; rfl
    rw [e]
    first
      | (rw [show max x n = n by omega]; exact (HST.out n).drew.le hb.size)
      | (rw [show max x n = x by omega]; exact (HST.out x).drew.le hb.size)

theorem set_no {v : Value} {m : List (List Int)} (t k n : Int) {w : World} (h : RowsR w v m) (c : Int) (hc : (askC m t k ≠ 0 ∧ c = askC m t k) ∨ (askC m t k = 0 ∧ ¬ (0 ≤ n ∧ n ≤ 1073741824) ∧ c = 2)) :
    Calls Try.prog 104 #[v, .int .i64 t, .int .i64 k, .int .i64 n] w fun e w' => e = .returned (.tuple #[.slice none 0 0, .int .i64 c]) ∧ Below w.heap.size w w' := by
  have K := asked_any t k h
  obtain ⟨a, na, cap, rfl⟩ := h.shape
  clear h
  rcases hc with ⟨h1, rfl⟩ | ⟨h1, h2, rfl⟩
  · obtain ⟨c, hc⟩ : ∃ c, c = askC m t k := ⟨_, rfl⟩
    rw [← hc] at K h1 ⊢
    have hd : (c != 0) = true := by simpa using h1
    have HK := Lib.hid K
    clear K hc h1
    go_enter Try.func104, Try.ntmps104
    go_wp2_with fail
    refine HK.out.mono ?_
    rintro e w1 ⟨rfl, hb⟩
    go_wp2_with fail
    go_ret2
    exact ⟨rfl, hb⟩
  · rw [h1] at K
    have HK := Lib.hid K
    clear K h1
    by_cases h3 : n < 0
    · clear h2
      go_enter Try.func104, Try.ntmps104
      go_wp2_with fail
      refine HK.out.mono ?_
      rintro e w1 ⟨rfl, hb⟩
      go_wp2_with fail
      go_ret2
      exact ⟨rfl, hb⟩
    · have h4 : 1073741824 < n := by omega
      clear h2
      go_enter Try.func104, Try.ntmps104
      go_wp2_with fail
      refine HK.out.mono ?_
      rintro e w1 ⟨rfl, hb⟩
      go_wp2_with fail
      go_ret2
      exact ⟨rfl, hb⟩

end Go.Proofs.Ytblgmjbajnkcdab
/-
  commits.New. No condition.
-/
namespace Go.Proofs.Ytblgmjbajnkcdab
open Go.RowKit

def newC : List (List Int) := List.replicate 4 (List.replicate 8 0)
theorem rowVals_zero : (madeCells #[Value.int .i64 0] 8).toList = rowVals (List.replicate 8 0) := by
  simp [madeCells, rowVals, List.range_succ, Array.toList_range]

def NewEnd (w : World) (e : Ending) (w' : World) : Prop := ∃ v', e = .returned v' ∧ OwnC w' w.heap.size v' newC ∧ Below w.heap.size w w'

set_option maxHeartbeats 1000000 in
theorem comNew_any (w : World) : Calls Try.prog 67 #[] w (NewEnd w) := by
  obtain ⟨i0, hi, hz0, hz1, hz2⟩ := info_parts info_row
  obtain ⟨i1, gi, gz0, gz1, gz2⟩ := info_parts info_int
  obtain ⟨B, hB⟩ : ∃ B, B = w.heap.size := ⟨_, rfl⟩
  have HB := Lib.hid hB
  clear hB
  go_enter Try.func67, Try.ntmps67
  go_wp2_with fail
  go_loopw [1, 2] (fun o i wr => ∃ k : Nat, k ≤ 4 ∧ i = .int .i64 (k : Int) ∧ Hid (OwnC wr B o (List.replicate k (List.replicate 8 0))) ∧ Hid (Below B w wr)) (fun _ i _ => 4 - (intOf i).toNat)
  case atStart => exact ⟨0, Nat.zero_le _, rfl, OwnRows.nil _ _ _ _, Below.refl _ _⟩
  case round =>
    obtain ⟨k, hk, rfl, hown, hb⟩ := hrel
    by_cases hlt : k < 4
    · have hk0 : (0 : Int) ≤ (k : Int) := by omega
      have hk1 : (k : Int) < 4 := by omega
      have hbw : Below w.heap.size w wr := by rw [← HB.out]; exact hb.out
      have hBr : B ≤ wr.heap.size := by rw [HB.out]; exact hbw.size
      obtain ⟨us', h1, h2, h3, h4⟩ := hown.out
      have HO1 := Lib.hid h1
      have HO2 := Lib.hid h2
      have HO3 := Lib.hid h3
      have HO4 := Lib.hid h4
      have hul : us'.length ≤ 4 := by
        rw [h2, List.length_replicate]
        omega
      clear hown h1 h2 h3 h4 hbw
      go_wp2_with (at_make; go_must (refine wpList_make_full _ rfl _ _ 43 rfl B 3 i1 (.int .i64 0) 1 Try.underlying43 gi gz0 gz1 .i64 .i64 _ _ 8 rfl rfl rfl rfl (by rw [gz2]; omega) (by unfold maxLen; omega) hBr ?_))
      intro w1 hx hg1
      rw [rowVals_zero] at hx
      have hbr := belowGrown hg1
      have HX2 := Lib.hid hx
      have HQ1 := Lib.hid (ownsRow_keep HO1.out hbr)
      have HQ3 := Lib.hid (fun i hi => ownsRow_keep (HO3.out i hi) hbr)
      have HBR := Lib.hid hbr
      clear hx hg1 hbr
      go_wp2_with (at_builtin; go_must (refine wpList_append_own _ rfl _ _ 23 rfl B 43 i0 (.slice none 0 0) 1 24 Try.underlying23 hi hz0 hz1 hz2 rfl (by decide) _ us'.length us' rfl (HQ1.out.alloc _) ⟨w1.heap.size, 0, none⟩ 1 1 [.slice (some ⟨wr.heap.size, 0, none⟩) 8 8] rfl rfl ?_ (by intro v hv; simp at hv; subst hv; rfl) (by unfold maxLen; omega) (by omega) (by have := HBR.out.size; simp; omega) ?_))
      · intro j v hv
        match j, hv with
        | 0, hv => simp at hv; subst hv; simp [Addr.add]
      · intro v' w3 hown3 hgrow3 _
        have R := OwnRows.snoc (te := 43) (ti := 3) (r := List.replicate 8 0) (by decide) (HQ1.out.alloc (.cells #[.slice (some ⟨wr.heap.size, 0, none⟩) 8 8] 43)) HO2.out (fun i hi => (HQ3.out i hi).alloc _) HO4.out (HX2.out.alloc _) (fun i hi j hj => by have := ((HO3.out i hi).lt j hj).2; simp only [Value.ownBlock, ne_eq, Option.some.injEq]; omega) hown3 hgrow3
        have hb3 : Below B w w3 := by
          refine Below.grown (hb.out.trans ((HBR.out.mono hBr).trans ((Below.refl _ _).alloc (by have := HBR.out.size; omega) _))) hgrow3 (by have := HBR.out.size; simp; omega) (fun j hj => ?_)
          exact (HQ1.out.lt j hj).1
        have HR3 := Lib.hid R
        have HB3 := Lib.hid hb3
        clear hown3 hgrow3 R hb3
        go_wp2_with fail
        go_roundw
        case rel =>
          refine ⟨k + 1, by omega, by go_num, ?_, HB3⟩
          show OwnC w3 B v' (List.replicate (k + 1) (List.replicate 8 0))
          rw [List.replicate_succ']
          exact HR3.out
        case measure => simp [intOf]; omega
    · obtain rfl : k = 4 := by omega
      go_wp2_with fail
      go_ret
      refine ⟨_, rfl, ?_, ?_⟩
      · have h1 := hown.out
        rw [HB.out] at h1
        exact h1
      · rw [← HB.out]; exact hb.out

theorem okC_new : okC newC = true := by decide
end Go.Proofs.Ytblgmjbajnkcdab
/-
  Plain laws of commits; the chapter's first examples. No condition.
-/
namespace Go.Proofs.Ytblgmjbajnkcdab
open Go.RowKit

theorem okC_mk {m : List (List Int)} (h : m.length = 4) (hr : ∀ r ∈ m, r.length = 8 ∧ ∀ x ∈ r, 0 ≤ x ∧ x ≤ 1073741824) : okC m = true := by
  simp only [okC, Bool.and_eq_true, decide_eq_true_eq, Bool.not_eq_true']
  refine ⟨h, List.any_eq_false.2 fun r hr' => ?_⟩
  obtain ⟨h8, hx⟩ := hr r hr'
  simp only [rowBad, Bool.or_eq_true, decide_eq_true_eq, not_or, Bool.not_eq_true]
  refine ⟨by omega, List.any_eq_false.2 fun x hx' => ?_⟩
  have := hx x hx'
  simp only [badI, Bool.or_eq_true, decide_eq_true_eq, not_or]
  omega

theorem row_mem {m : List (List Int)} {t : Nat} (h : t < m.length) : m.getD t [] ∈ m := by
  have e : m.getD t [] = m[t] := by simp [List.getD, h]
  rw [e]; exact List.getElem_mem _
theorem num_mem {r : List Int} {k : Nat} (h : k < r.length) : r.getD k 0 ∈ r := by
  have e : r.getD k 0 = r[k] := by simp [List.getD, h]
  rw [e]; exact List.getElem_mem _

theorem getC_bd {m : List (List Int)} (hok : okC m = true) {t k : Int} (h1 : 0 ≤ t) (h2 : t < 4) (h3 : 0 ≤ k) (h4 : k < 8) : 0 ≤ getC m t k ∧ getC m t k ≤ 1073741824 := by
  obtain ⟨hl, hr⟩ := okC_spec hok
  have h5 := hr _ (row_mem (t := t.toNat) (by omega))
  exact h5.2 _ (num_mem (by omega))

theorem okC_set {m : List (List Int)} (hok : okC m = true) {t k n : Int} (h1 : 0 ≤ t) (h2 : t < 4) (h3 : 0 ≤ k) (h4 : k < 8) (h5 : 0 ≤ n) (h6 : n ≤ 1073741824) : okC (setC m t k n) = true := by
  have hb := getC_bd hok h1 h2 h3 h4
  obtain ⟨hl, hr⟩ := okC_spec hok
  have h8 := hr _ (row_mem (t := t.toNat) (by omega))
  refine okC_mk (by simp [setC, hl]) (fun r hr' => ?_)
  rcases List.mem_or_eq_of_mem_set hr' with h | h
  · exact hr r h
  · subst h
    refine ⟨by rw [List.length_set]; exact h8.1, fun x hx => ?_⟩
    rcases List.mem_or_eq_of_mem_set hx with h | h
    · exact h8.2 x h
    · omega

theorem getC_set {m : List (List Int)} (hok : okC m = true) {t k n t' k' : Int} (h1 : 0 ≤ t) (h2 : t < 4) (h3 : 0 ≤ k) (h4 : k < 8) (h1' : 0 ≤ t') (h3' : 0 ≤ k') :
    getC (setC m t k n) t' k' = if t' = t ∧ k' = k then max (getC m t k) n else getC m t' k' := by
  obtain ⟨hl, hr⟩ := okC_spec hok
  have h8 := (hr _ (row_mem (t := t.toNat) (by omega))).1
  unfold setC
  by_cases ht : t' = t
  · subst ht
    by_cases hk : k' = k
    · subst hk
      rw [if_pos ⟨rfl, rfl⟩]
      generalize hx : max (getC m t' k') n = x
      unfold getC
      rw [getD_set_same (by omega), getD_set_same (by omega)]
    · rw [if_neg (fun h => hk h.2)]
      generalize hx : max (getC m t' k) n = x
      unfold getC
      rw [getD_set_same (by omega), getD_set_other (by omega)]
  · rw [if_neg (fun h => ht h.1)]
    generalize hx : max (getC m t k) n = x
    unfold getC
    rw [getD_set_other (by omega)]

theorem askC_yes {m : List (List Int)} (hok : okC m = true) {t k : Int} (h1 : 0 ≤ t) (h2 : t < 4) (h3 : 0 ≤ k) (h4 : k < 8) : askC m t k = 0 := by
  simp [askC, hok, inTW, h1, h2, h3, h4]
theorem askC_zero {m : List (List Int)} {t k : Int} (h : askC m t k = 0) : okC m = true ∧ 0 ≤ t ∧ t < 4 ∧ 0 ≤ k ∧ k < 8 := by
  unfold askC at h
  by_cases hok : okC m = true
  · rw [if_pos hok] at h
    by_cases hin : inTW t k = true
    · exact ⟨hok, by simpa [inTW] using hin⟩
    · rw [if_neg hin] at h; omega
  · rw [if_neg hok] at h; omega

theorem get_yes {v : Value} {m : List (List Int)} (t k : Int) {w : World} (h : RowsR w v m) (hok : okC m = true) (h1 : 0 ≤ t) (h2 : t < 4) (h3 : 0 ≤ k) (h4 : k < 8) :
    Calls Try.prog 71 #[v, .int .i64 t, .int .i64 k] w fun e w' => e = .returned (.tuple #[.int .i64 (getC m t k), .int .i64 0]) ∧ Below w.heap.size w w' := by
  have := get_any t k h
  rw [askC_yes hok h1 h2 h3 h4] at this
  exact this

end Go.Proofs.Ytblgmjbajnkcdab
