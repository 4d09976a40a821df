/-
  Texts that belong together; the remark at the head of each says what it proves.
-/
import Derived.Test.YtblgmjbajnkcdabBunD
import Derived.Deep.LoopGhost
import Derived.WalkLawsBesides
import Derived.Test.YtblgmjbajnkcdabBunC
import Derived.Deep.RegionHeld3
set_option maxRecDepth 100000
/-
  Plain: a message more, what stands at an offset; how such answers are returned. No program in sight.
-/
namespace Go.Proofs.Ytblgmjbajnkcdab
open Go.RowKit

def addP (t : Top) (id : Int) (k b : ByteArray) : Top × Int × Int :=
  if t.may then
    (if id < 0 ∨ 6291456 ≤ id then (Top.zero, 0, 2) else if 16 < k.size ∨ 64 < b.size then (Top.zero, 0, 3) else if t.next = 1073741824 ∨ t.ents.length = 200 then (Top.zero, 0, 9)
      else (⟨t.base, t.next + 1, t.mark, t.ents ++ [⟨t.next, id, k, b⟩]⟩, t.next, 0))
  else (Top.zero, 0, 8)
def fetchP (t : Top) (o : Int) : Ent × Int :=
  if t.may then
    (if o < 0 then (default, 2) else if t.next ≤ o then (default, 170) else if o < t.base then (default, 171) else match t.ents.find? fun x => x.off == o with
      | some x => (x, 0)
      | none => (default, 172))
  else (default, 8)

/-- A topic, new memory, and two numbers. -/
def TopEnd2 (u : Top) (x y : Int) (w : World) (e : Ending) (w' : World) : Prop :=
  ∃ a cap, e = .returned (.tuple #[.agg #[.int .i64 u.base, .int .i64 u.next, .int .i64 u.mark, .slice a u.ents.length cap], .int .i64 x, .int .i64 y]) ∧
    OwnE w' w.heap.size (.slice a u.ents.length cap) u.ents ∧ Below w.heap.size w w'
theorem topEnd2_zero {w w' : World} {e : Ending} (x y : Int) (h : e = .returned (.tuple #[.agg #[.int .i64 0, .int .i64 0, .int .i64 0, .slice none 0 0], .int .i64 x, .int .i64 y])) (hb : Below w.heap.size w w') : TopEnd2 Top.zero x y w e w' :=
  ⟨none, 0, h, World.ownsRow_nil _ _ _ _, hb⟩
/-- An entry and a number. -/
def EntEnd (x : Ent) (n : Int) (w : World) (e : Ending) (w' : World) : Prop :=
  e = .returned (.tuple #[.agg #[.int .i64 x.off, .int .i64 x.id, .string x.key, .string x.body], .int .i64 n]) ∧ Below w.heap.size w w'

theorem own_ne {W : World} {B b : Nat} {v : Value} {l : List Ent} (h : OwnE W B v l) (hb : b < B) : v.ownBlock ≠ some b := fun e => by have := (h.lt _ e).1; omega
theorem own_blk_ne {W : World} {B g : Nat} {v : Value} {l : List Ent} {t : TypeId} {cs : List Value} (h : OwnE W B v l) (hg : Blk W g t cs) (hne : 29 ≠ t) : v.ownBlock ≠ some g := by
  rcases h.2 with ⟨rfl, _⟩ | ⟨g', cap', cur, rfl, _, hh, _⟩
  · simp [Value.ownBlock]
  · intro he
    have : g' = g := by simpa [Value.ownBlock] using he
    subst this
    unfold Blk at hg
    rw [hg] at hh
    injection hh with hh
    injection hh with _ ht
    exact hne ht.symm
theorem own_set' {W : World} {B b o : Nat} {v u : Value} {l : List Ent} (h : OwnE W B v l) (hb : v.ownBlock ≠ some b) : OwnE (W.setCell ⟨b, o, none⟩ u) B v l :=
  ownsRow_setCell_other h hb u
theorem below_grown {a W w' : World} {B : Nat} {v : Value} {l : List Ent} (h : Below a.heap.size a W) (hg : W.grownBy w' v.ownBlock) (ho : OwnE W B v l) (hB : a.heap.size ≤ B) : Below a.heap.size a w' :=
  h.grown hg h.size (fun k hk => Nat.le_trans hB (ho.lt k hk).1)
/-- The cells of an entry that was just laid down. -/
theorem news_ent (x : Ent) {W : World} {g : Nat} {t : TypeId} (hg : g = W.heap.size) : ∀ j u, (entCells x)[j]? = some u → (W.alloc (.cells #[.int .i64 x.off, .int .i64 x.id, .string x.key, .string x.body] t)).cell? ((⟨g, 0, none⟩ : Addr).add j) = some u := by
  intro j u hu
  have hB := Blk.new (w := W) (t := t) (cs := entCells x) hg
  have h := hB.cell j
  rw [show ((⟨g, 0, none⟩ : Addr).add j) = ⟨g, j, none⟩ by unfold Addr.add; split <;> simp_all]
  rw [← hu]
  exact h
theorem find_at {l : List Ent} (h : rises l) {i : Nat} (hi : i < l.length) {o : Int} (ho : (l.getD i default).off = o) : l.find? (fun x => x.off == o) = some (l.getD i default) := by
  rw [List.find?_eq_some_iff_getElem]
  refine ⟨by simpa using ho, i, hi, (getD_at hi).symm, fun j hj => ?_⟩
  have := rises_lt h hj hi
  rw [getD_at (by omega)] at this
  simp
  omega
theorem find_none {l : List Ent} {o : Int} (h : ∀ i, i < l.length → (l.getD i default).off ≠ o) : l.find? (fun x => x.off == o) = none := by
  rw [List.find?_eq_none]
  intro x hx
  obtain ⟨i, hi, rfl⟩ := List.getElem_of_mem hx
  have := h i hi
  rw [getD_at hi] at this
  simpa using this
end Go.Proofs.Ytblgmjbajnkcdab
/-
  cmp.Compare at int, topic.Fetch's function, slices.BinarySearchFunc with it. No condition but that the entries read and rise.
-/
namespace Go.Proofs.Ytblgmjbajnkcdab
open Go.RowKit

theorem isNaN_any (n : Int) (w : World) : Calls Try.prog 109 #[.int .i64 n] w fun e w' => e = .returned (.bool false) ∧ w = w' := by
  have e : (n != n) = false := by simp
  go_enter Try.func109, Try.ntmps109
  go_wp2_with fail
  go_ret
  exact ⟨rfl, rfl⟩
def cmpI (a b : Int) : Int := if a < b then -1 else if b < a then 1 else 0
theorem compare_any (a b : Int) (w : World) : Calls Try.prog 96 #[.int .i64 a, .int .i64 b] w fun e w' => e = .returned (.int .i64 (cmpI a b)) ∧ w = w' := by
  have L1 := Lib.hid (fun w => isNaN_any a w)
  have L2 := Lib.hid (fun w => isNaN_any b w)
  by_cases h1 : a < b
  · rw [show cmpI a b = -1 by simp [cmpI, h1]]
    go_enter Try.func96, Try.ntmps96
    go_wp2_with fail
    refine (L1.out _).mono ?_
    rintro e w1 ⟨rfl, rfl⟩
    go_wp2_with fail
    refine (L2.out _).mono ?_
    rintro e w1 ⟨rfl, rfl⟩
    go_wp2_with fail
    go_ret
    exact ⟨rfl, rfl⟩
  · by_cases h2 : b < a
    · rw [show cmpI a b = 1 by simp [cmpI, h1, h2]]
      go_enter Try.func96, Try.ntmps96
      go_wp2_with fail
      refine (L1.out _).mono ?_
      rintro e w1 ⟨rfl, rfl⟩
      go_wp2_with fail
      refine (L2.out _).mono ?_
      rintro e w1 ⟨rfl, rfl⟩
      go_wp2_with fail
      go_ret
      exact ⟨rfl, rfl⟩
    · rw [show cmpI a b = 0 by simp [cmpI, h1, h2]]
      go_enter Try.func96, Try.ntmps96
      go_wp2_with fail
      refine (L1.out _).mono ?_
      rintro e w1 ⟨rfl, rfl⟩
      go_wp2_with fail
      refine (L2.out _).mono ?_
      rintro e w1 ⟨rfl, rfl⟩
      go_wp2_with fail
      go_ret
      exact ⟨rfl, rfl⟩

theorem fetch1_any (x : Ent) (n : Int) (w : World) : Calls Try.prog 95 #[.agg #[.int .i64 x.off, .int .i64 x.id, .string x.key, .string x.body], .int .i64 n] w fun e w' => e = .returned (.int .i64 (cmpI x.off n)) ∧ Below w.heap.size w w' := by
  obtain ⟨c, hc⟩ : ∃ c, c = cmpI x.off n := ⟨_, rfl⟩
  have L := fun w => compare_any x.off n w
  rw [← hc] at L ⊢
  have HL := Lib.hid L
  clear L hc
  go_enter Try.func95, Try.ntmps95
  go_wp2_with fail
  refine (HL.out _).mono ?_
  rintro e w1 ⟨rfl, rfl⟩
  go_wp2_with fail
  go_ret
  exact ⟨rfl, (Below.refl _ _).alloc (Nat.le_refl _) _⟩

/-- What a search among entries that rise answers. -/
def BsEnd (l : List Ent) (o : Int) (w : World) (e : Ending) (w' : World) : Prop :=
  (∃ (i : Nat) (b : Bool), e = .returned (.tuple #[.int .i64 (i : Int), .bool b]) ∧ (b = true → i < l.length ∧ (l.getD i default).off = o) ∧ (b = false → ∀ j, j < l.length → (l.getD j default).off ≠ o)) ∧ Below w.heap.size w w'

set_option maxHeartbeats 1000000 in
theorem bs_any {v : Value} {l : List Ent} {w : World} (o : Int) (h : SliceR w v 4 entCells l) (hr : rises l) (hl : l.length ≤ 1000000) :
    Calls Try.prog 94 #[v, .int .i64 o, .func (.func 95) #[] #[]] w (BsEnd l o w) := by
  obtain ⟨a, cap, hv, _⟩ := id h
  subst hv
  obtain ⟨⟨_, hcap⟩, ⟨hmax, _⟩, hd⟩ := h.ents
  unfold maxLen at hmax
  have HD := Lib.hid hd
  have HR := Lib.hid hr
  obtain ⟨n, hn⟩ : ∃ n, n = l.length := ⟨_, rfl⟩
  rw [← hn] at HD hcap hl ⊢
  have HN := Lib.hid hn
  clear hn hd h hr
  have hn' : (n : Int) ≤ 1000000 := by omega
  go_enter Try.func94, Try.ntmps94
  go_wp2_with fail
  go_loopg [9, 10] n (fun g i j wr => ∃ p q : Nat, p ≤ q ∧ q ≤ n ∧ g = q - p ∧ i = .int .i64 (p : Int) ∧ j = .int .i64 (q : Int) ∧ Hid (∀ k, k < p → (l.getD k default).off < o) ∧ Hid (∀ k, q ≤ k → k < n → o ≤ (l.getD k default).off) ∧ Hid (Below w.heap.size w wr))
  case atStart => exact ⟨0, n, Nat.zero_le _, Nat.le_refl _, rfl, rfl, rfl, (fun k hk => absurd hk (Nat.not_lt_zero _)), (fun k h1 h2 => by omega), Below.refl _ _⟩
  case round =>
    obtain ⟨p, q, hpq, hqn, rfl, rfl, rfl, hlo, hhi, hb⟩ := hrel
    by_cases hlt : p < q
    · have hk1 : (p : Int) < (q : Int) := by omega
      obtain ⟨m, hm⟩ : ∃ m : Nat, ((p : Int) + (q : Int)) / 2 = (m : Int) := ⟨(p + q) / 2, by omega⟩
      have m1 : p ≤ m ∧ m < q ∧ m < n := by omega
      obtain ⟨m1, m2, m3⟩ := m1
      have m4 : (0 : Int) ≤ (m : Int) := by omega
      have m5 : (m : Int) < (n : Int) := by omega
      obtain ⟨bb, off, ha, hcc⟩ := HD.out (by omega)
      subst ha
      have cc := hcc m (by rw [← HN.out]; exact m3)
      clear hcc
      obtain ⟨x, hx⟩ : ∃ x, x = l.getD m default := ⟨_, rfl⟩
      rw [← hx] at cc
      have c0 := keep hb.out cc.1.1.1
      have c1 := keep hb.out cc.1.1.2
      have c2 := keep hb.out cc.1.2
      have c3 := keep hb.out cc.2
      have HX := Lib.hid hx
      obtain ⟨c, hc⟩ : ∃ c, c = cmpI x.off o := ⟨_, rfl⟩
      have L := fun w => fetch1_any x o w
      rw [← hc] at L
      have HLL := Lib.hid L
      have HCC := Lib.hid hc
      clear cc hx L hc
      by_cases hlo2 : x.off < o
      · have c4 : c < 0 := by rw [HCC.out]; simp [cmpI, hlo2]
        have HLO := Lib.hid (show ∀ k, k < m + 1 → (l.getD k default).off < o by
          intro k hk
          by_cases hkm : k = m
          · subst hkm; rw [← HX.out]; exact hlo2
          · have := rises_lt HR.out (j := k) (k := m) (by omega) (by rw [← HN.out]; exact m3)
            rw [← HX.out] at this
            omega)
        clear hlo2
        go_wp2_with fail
        refine (HLL.out _).mono ?_
        rintro e w1 ⟨rfl, hb1⟩
        have HB1 := Lib.hid (hb.out.trans (hb1.mono hb.out.size))
        clear hb1 hb c0 c1 c2 c3
        go_wp2_with fail
        go_roundg (q - (m + 1))
        case measure => omega
        case rel => exact ⟨m + 1, q, by omega, hqn, rfl, by go_num, rfl, HLO, hhi, HB1⟩
      · have c4 : ¬ c < 0 := by rw [HCC.out]; simp only [cmpI, hlo2, if_false]; split <;> omega
        have HHI := Lib.hid (show ∀ k, m ≤ k → k < n → o ≤ (l.getD k default).off by
          intro k hk hkn
          by_cases hkm : k = m
          · subst hkm; rw [← HX.out]; omega
          · have := rises_lt HR.out (j := m) (k := k) (by omega) (by rw [← HN.out]; exact hkn)
            rw [← HX.out] at this
            omega)
        clear hlo2
        go_wp2_with fail
        refine (HLL.out _).mono ?_
        rintro e w1 ⟨rfl, hb1⟩
        have HB1 := Lib.hid (hb.out.trans (hb1.mono hb.out.size))
        clear hb1 hb c0 c1 c2 c3
        go_wp2_with fail
        go_roundg (m - p)
        case measure => omega
        case rel => exact ⟨p, m, by omega, by omega, rfl, rfl, by go_num, hlo, HHI, HB1⟩
    · obtain rfl : p = q := by omega
      have hlt' : ¬ (p : Int) < (p : Int) := by omega
      by_cases hpn : p < n
      · have m4 : (0 : Int) ≤ (p : Int) := by omega
        have m5 : (p : Int) < (n : Int) := by omega
        obtain ⟨bb, off, ha, hcc⟩ := HD.out (by omega)
        subst ha
        have cc := hcc p (by rw [← HN.out]; exact hpn)
        clear hcc
        obtain ⟨x, hx⟩ : ∃ x, x = l.getD p default := ⟨_, rfl⟩
        rw [← hx] at cc
        have c0 := keep hb.out cc.1.1.1
        have c1 := keep hb.out cc.1.1.2
        have c2 := keep hb.out cc.1.2
        have c3 := keep hb.out cc.2
        have HX := Lib.hid hx
        obtain ⟨c, hc⟩ : ∃ c, c = cmpI x.off o := ⟨_, rfl⟩
        have L := fun w => fetch1_any x o w
        rw [← hc] at L
        have HLL := Lib.hid L
        have HCC := Lib.hid hc
        clear cc hx L hc
        go_wp2_with fail
        refine (HLL.out _).mono ?_
        rintro e w1 ⟨rfl, hb1⟩
        have HB1 := Lib.hid (hb.out.trans (hb1.mono hb.out.size))
        clear hb1 hb c0 c1 c2 c3
        go_wp2_with fail
        go_ret2
        refine ⟨⟨p, c == 0, rfl, fun h => ⟨by rw [← HN.out]; exact hpn, ?_⟩, fun h j hj he => ?_⟩, HB1.out⟩
        · rw [← HX.out]
          have h0 : c = 0 := by simpa using h
          have h1 := HCC.out
          rw [h0, cmpI] at h1
          by_cases a1 : x.off < o
          · simp [a1] at h1
          · by_cases a2 : o < x.off
            · simp [a1, a2] at h1
            · omega
        · have h0 : c ≠ 0 := by simpa using h
          have h1 := HCC.out
          have a0 : x.off ≠ o := fun e => h0 (by rw [h1, e]; simp [cmpI])
          have a1 := hhi.out p (Nat.le_refl _) hpn
          rw [← HX.out] at a1
          by_cases hjp : j < p
          · have := hlo.out j hjp; omega
          · by_cases hj2 : j = p
            · subst hj2; rw [← HX.out] at he; exact a0 he
            · have := rises_lt HR.out (j := p) (k := j) (by omega) hj
              rw [← HX.out] at this
              omega
      · obtain rfl : p = n := by omega
        go_wp2_with fail
        go_ret2
        refine ⟨⟨p, false, rfl, (fun h => by cases h), fun _ j hj he => ?_⟩, hb.out⟩
        have := hlo.out j (by rw [HN.out]; exact hj)
        omega
end Go.Proofs.Ytblgmjbajnkcdab
/-
  topic.Fetch. No condition but that the topic reads.
-/
namespace Go.Proofs.Ytblgmjbajnkcdab
open Go.RowKit

set_option maxHeartbeats 2000000 in
set_option maxRecDepth 100000 in
theorem fetch_any {v : Value} {t : Top} {w : World} {x : Ent} {n : Int} (o : Int) (h : TopR w v t) (hk : ∀ x ∈ t.ents, x.key.size ≤ maxLen) (hf : fetchP t o = (x, n)) :
    Calls Try.prog 70 #[v, .int .i64 o] w (EntEnd x n w) := by
  have T := Lib.hid h
  have HK := Lib.hid hk
  obtain ⟨a, cap, rfl, hs⟩ := h
  by_cases hm : t.may
  · have HM := Lib.hid hm
    have HRI := Lib.hid (may_rises hm)
    have HL := Lib.hid (show t.ents.length ≤ 1000000 by have := hm.1.2.2.2.2.2.2; omega)
    have HS := Lib.hid hs
    rw [fetchP, if_pos hm] at hf
    by_cases h1 : o < 0
    · rw [if_pos h1] at hf
      cases hf
      clear hm hs hk
      go_enter Try.func70, Try.ntmps70
      go_wp2_with fail
      refine Calls.mono (check_yes ?_ HK.out HM.out) ?_
      · exact T.out.below (by repeat (first | (with_reducible exact Below.refl _ _) | (with_reducible exact Below.refl _ _) | (with_reducible apply Below.drew) | (with_reducible apply below_alloc) | ((with_reducible refine Below.alloc ?_ ?_ _); rotate_left; focus (first | (simp; done) | (simp; omega) | omega)) | ((with_reducible refine Below.setCell ?_ ?_ _); rotate_left; focus (first | (simp; done) | (simp; omega) | omega))))
      rintro e w2 ⟨rfl, hb⟩
      have HB : Hid (Below w.heap.size w _) := below_step (by repeat (first | (with_reducible exact Below.refl _ _) | (with_reducible exact Below.refl _ _) | (with_reducible apply Below.drew) | (with_reducible apply below_alloc) | ((with_reducible refine Below.alloc ?_ ?_ _); rotate_left; focus (first | (simp; done) | (simp; omega) | omega)) | ((with_reducible refine Below.setCell ?_ ?_ _); rotate_left; focus (first | (simp; done) | (simp; omega) | omega)))) hb
      have R : Blk _ (w.heap.size + 1) _ _ := Blk.step (by repeat (first | ((with_reducible apply Blk.new); focus (first | rfl | (simp; done) | (simp; omega))) | (with_reducible apply Blk.drew) | (with_reducible apply Blk.alloc) | (with_reducible apply Blk.set_) | ((with_reducible apply Blk.far); rotate_left; focus (first | (simp; done) | (simp; omega) | omega)))) hb
      obtain ⟨r0, r1, r2, r3, rz⟩ := cells4 R
      have rl := Blk.lt R
      have HR := Lib.hid R
      clear R
      clear hb
      go_wp2_with fail
      refine bodyPost_ret (v := .tuple #[.agg #[.int .i64 0, .int .i64 0, .string ⟨#[]⟩, .string ⟨#[]⟩], .int .i64 2]) (by simp [results, Try.results70, go_sem, r0, r1, r2, r3]) rfl ⟨rfl, ?_⟩
      repeat (first | (with_reducible exact HB.out) | (with_reducible exact Below.refl _ _) | (with_reducible apply Below.drew) | (with_reducible apply below_alloc) | ((with_reducible refine Below.alloc ?_ ?_ _); rotate_left; focus (first | (simp; done) | (simp; omega) | omega)) | ((with_reducible refine Below.setCell ?_ ?_ _); rotate_left; focus (first | (simp; done) | (simp; omega) | omega)))
    · rw [if_neg h1] at hf
      have h1' : 0 ≤ o := by omega
      by_cases h2 : t.next ≤ o
      · rw [if_pos h2] at hf
        cases hf
        clear hm hs hk
        go_enter Try.func70, Try.ntmps70
        go_wp2_with fail
        refine Calls.mono (check_yes ?_ HK.out HM.out) ?_
        · exact T.out.below (by repeat (first | (with_reducible exact Below.refl _ _) | (with_reducible exact Below.refl _ _) | (with_reducible apply Below.drew) | (with_reducible apply below_alloc) | ((with_reducible refine Below.alloc ?_ ?_ _); rotate_left; focus (first | (simp; done) | (simp; omega) | omega)) | ((with_reducible refine Below.setCell ?_ ?_ _); rotate_left; focus (first | (simp; done) | (simp; omega) | omega))))
        rintro e w2 ⟨rfl, hb⟩
        have HB : Hid (Below w.heap.size w _) := below_step (by repeat (first | (with_reducible exact Below.refl _ _) | (with_reducible exact Below.refl _ _) | (with_reducible apply Below.drew) | (with_reducible apply below_alloc) | ((with_reducible refine Below.alloc ?_ ?_ _); rotate_left; focus (first | (simp; done) | (simp; omega) | omega)) | ((with_reducible refine Below.setCell ?_ ?_ _); rotate_left; focus (first | (simp; done) | (simp; omega) | omega)))) hb
        have A : Blk _ (w.heap.size) _ _ := Blk.step (by repeat (first | ((with_reducible apply Blk.new); focus (first | rfl | (simp; done) | (simp; omega))) | (with_reducible apply Blk.drew) | (with_reducible apply Blk.alloc) | (with_reducible apply Blk.set_) | ((with_reducible apply Blk.far); rotate_left; focus (first | (simp; done) | (simp; omega) | omega)))) hb
        obtain ⟨a0, a1, a2, a3, az⟩ := cells4 A
        have al := Blk.lt A
        have HA := Lib.hid A
        clear A
        have R : Blk _ (w.heap.size + 1) _ _ := Blk.step (by repeat (first | ((with_reducible apply Blk.new); focus (first | rfl | (simp; done) | (simp; omega))) | (with_reducible apply Blk.drew) | (with_reducible apply Blk.alloc) | (with_reducible apply Blk.set_) | ((with_reducible apply Blk.far); rotate_left; focus (first | (simp; done) | (simp; omega) | omega)))) hb
        obtain ⟨r0, r1, r2, r3, rz⟩ := cells4 R
        have rl := Blk.lt R
        have HR := Lib.hid R
        clear R
        clear hb
        go_wp2_with fail
        refine bodyPost_ret (v := .tuple #[.agg #[.int .i64 0, .int .i64 0, .string ⟨#[]⟩, .string ⟨#[]⟩], .int .i64 170]) (by simp [results, Try.results70, go_sem, r0, r1, r2, r3]) rfl ⟨rfl, ?_⟩
        repeat (first | (with_reducible exact HB.out) | (with_reducible exact Below.refl _ _) | (with_reducible apply Below.drew) | (with_reducible apply below_alloc) | ((with_reducible refine Below.alloc ?_ ?_ _); rotate_left; focus (first | (simp; done) | (simp; omega) | omega)) | ((with_reducible refine Below.setCell ?_ ?_ _); rotate_left; focus (first | (simp; done) | (simp; omega) | omega)))
      · rw [if_neg h2] at hf
        have h2' : o < t.next := by omega
        by_cases h3 : o < t.base
        · rw [if_pos h3] at hf
          cases hf
          clear hm hs hk
          go_enter Try.func70, Try.ntmps70
          go_wp2_with fail
          refine Calls.mono (check_yes ?_ HK.out HM.out) ?_
          · exact T.out.below (by repeat (first | (with_reducible exact Below.refl _ _) | (with_reducible exact Below.refl _ _) | (with_reducible apply Below.drew) | (with_reducible apply below_alloc) | ((with_reducible refine Below.alloc ?_ ?_ _); rotate_left; focus (first | (simp; done) | (simp; omega) | omega)) | ((with_reducible refine Below.setCell ?_ ?_ _); rotate_left; focus (first | (simp; done) | (simp; omega) | omega))))
          rintro e w2 ⟨rfl, hb⟩
          have HB : Hid (Below w.heap.size w _) := below_step (by repeat (first | (with_reducible exact Below.refl _ _) | (with_reducible exact Below.refl _ _) | (with_reducible apply Below.drew) | (with_reducible apply below_alloc) | ((with_reducible refine Below.alloc ?_ ?_ _); rotate_left; focus (first | (simp; done) | (simp; omega) | omega)) | ((with_reducible refine Below.setCell ?_ ?_ _); rotate_left; focus (first | (simp; done) | (simp; omega) | omega)))) hb
          have A : Blk _ (w.heap.size) _ _ := Blk.step (by repeat (first | ((with_reducible apply Blk.new); focus (first | rfl | (simp; done) | (simp; omega))) | (with_reducible apply Blk.drew) | (with_reducible apply Blk.alloc) | (with_reducible apply Blk.set_) | ((with_reducible apply Blk.far); rotate_left; focus (first | (simp; done) | (simp; omega) | omega)))) hb
          obtain ⟨a0, a1, a2, a3, az⟩ := cells4 A
          have al := Blk.lt A
          have HA := Lib.hid A
          clear A
          have R : Blk _ (w.heap.size + 1) _ _ := Blk.step (by repeat (first | ((with_reducible apply Blk.new); focus (first | rfl | (simp; done) | (simp; omega))) | (with_reducible apply Blk.drew) | (with_reducible apply Blk.alloc) | (with_reducible apply Blk.set_) | ((with_reducible apply Blk.far); rotate_left; focus (first | (simp; done) | (simp; omega) | omega)))) hb
          obtain ⟨r0, r1, r2, r3, rz⟩ := cells4 R
          have rl := Blk.lt R
          have HR := Lib.hid R
          clear R
          clear hb
          go_wp2_with fail
          refine bodyPost_ret (v := .tuple #[.agg #[.int .i64 0, .int .i64 0, .string ⟨#[]⟩, .string ⟨#[]⟩], .int .i64 171]) (by simp [results, Try.results70, go_sem, r0, r1, r2, r3]) rfl ⟨rfl, ?_⟩
          repeat (first | (with_reducible exact HB.out) | (with_reducible exact Below.refl _ _) | (with_reducible apply Below.drew) | (with_reducible apply below_alloc) | ((with_reducible refine Below.alloc ?_ ?_ _); rotate_left; focus (first | (simp; done) | (simp; omega) | omega)) | ((with_reducible refine Below.setCell ?_ ?_ _); rotate_left; focus (first | (simp; done) | (simp; omega) | omega)))
        · rw [if_neg h3] at hf
          have HF := Lib.hid hf
          have HD := Lib.hid hs.ents.2.2
          clear hm hs hf hk
          go_enter Try.func70, Try.ntmps70
          go_wp2_with fail
          refine Calls.mono (check_yes ?_ HK.out HM.out) ?_
          · exact T.out.below (by repeat (first | (with_reducible exact Below.refl _ _) | (with_reducible exact Below.refl _ _) | (with_reducible apply Below.drew) | (with_reducible apply below_alloc) | ((with_reducible refine Below.alloc ?_ ?_ _); rotate_left; focus (first | (simp; done) | (simp; omega) | omega)) | ((with_reducible refine Below.setCell ?_ ?_ _); rotate_left; focus (first | (simp; done) | (simp; omega) | omega))))
          rintro e w2 ⟨rfl, hb⟩
          have HB : Hid (Below w.heap.size w _) := below_step (by repeat (first | (with_reducible exact Below.refl _ _) | (with_reducible exact Below.refl _ _) | (with_reducible apply Below.drew) | (with_reducible apply below_alloc) | ((with_reducible refine Below.alloc ?_ ?_ _); rotate_left; focus (first | (simp; done) | (simp; omega) | omega)) | ((with_reducible refine Below.setCell ?_ ?_ _); rotate_left; focus (first | (simp; done) | (simp; omega) | omega)))) hb
          have A : Blk _ (w.heap.size) _ _ := Blk.step (by repeat (first | ((with_reducible apply Blk.new); focus (first | rfl | (simp; done) | (simp; omega))) | (with_reducible apply Blk.drew) | (with_reducible apply Blk.alloc) | (with_reducible apply Blk.set_) | ((with_reducible apply Blk.far); rotate_left; focus (first | (simp; done) | (simp; omega) | omega)))) hb
          obtain ⟨a0, a1, a2, a3, az⟩ := cells4 A
          have al := Blk.lt A
          have HA := Lib.hid A
          clear A
          have R : Blk _ (w.heap.size + 1) _ _ := Blk.step (by repeat (first | ((with_reducible apply Blk.new); focus (first | rfl | (simp; done) | (simp; omega))) | (with_reducible apply Blk.drew) | (with_reducible apply Blk.alloc) | (with_reducible apply Blk.set_) | ((with_reducible apply Blk.far); rotate_left; focus (first | (simp; done) | (simp; omega) | omega)))) hb
          obtain ⟨r0, r1, r2, r3, rz⟩ := cells4 R
          have rl := Blk.lt R
          have HR := Lib.hid R
          clear R
          clear hb
          go_wp2_with fail
          refine Calls.mono (bs_any o (l := t.ents) ?_ HRI.out HL.out) ?_
          · exact HS.out.below entCells_len HB.out
          rintro e w3 ⟨⟨i, b, rfl, hy, hno⟩, hb⟩
          replace HB : Hid (Below w.heap.size w _) := below_step (by repeat (first | (with_reducible exact HB.out) | (with_reducible exact Below.refl _ _) | (with_reducible apply Below.drew) | (with_reducible apply below_alloc) | ((with_reducible refine Below.alloc ?_ ?_ _); rotate_left; focus (first | (simp; done) | (simp; omega) | omega)) | ((with_reducible refine Below.setCell ?_ ?_ _); rotate_left; focus (first | (simp; done) | (simp; omega) | omega)))) hb
          clear a0 a1 a2 a3 az al
          replace HA : Hid (Blk _ (w.heap.size) _ _) := Blk.step (by repeat (first | (with_reducible exact HA.out) | ((with_reducible apply Blk.new); focus (first | rfl | (simp; done) | (simp; omega))) | (with_reducible apply Blk.drew) | (with_reducible apply Blk.alloc) | (with_reducible apply Blk.set_) | ((with_reducible apply Blk.far); rotate_left; focus (first | (simp; done) | (simp; omega) | omega)))) hb
          obtain ⟨a0, a1, a2, a3, az⟩ := cells4 HA.out
          have al := Blk.lt HA.out
          clear r0 r1 r2 r3 rz rl
          replace HR : Hid (Blk _ (w.heap.size + 1) _ _) := Blk.step (by repeat (first | (with_reducible exact HR.out) | ((with_reducible apply Blk.new); focus (first | rfl | (simp; done) | (simp; omega))) | (with_reducible apply Blk.drew) | (with_reducible apply Blk.alloc) | (with_reducible apply Blk.set_) | ((with_reducible apply Blk.far); rotate_left; focus (first | (simp; done) | (simp; omega) | omega)))) hb
          obtain ⟨r0, r1, r2, r3, rz⟩ := cells4 HR.out
          have rl := Blk.lt HR.out
          have HY := Lib.hid hy
          have HNO := Lib.hid hno
          clear hb hy hno
          cases b
          · have hz := HF.out
            rw [find_none (HNO.out rfl)] at hz
            cases hz
            go_wp2_with fail
            refine bodyPost_ret (v := .tuple #[.agg #[.int .i64 0, .int .i64 0, .string ⟨#[]⟩, .string ⟨#[]⟩], .int .i64 172]) (by simp [results, Try.results70, go_sem, r0, r1, r2, r3]) rfl ⟨rfl, ?_⟩
            repeat (first | (with_reducible exact HB.out) | (with_reducible exact Below.refl _ _) | (with_reducible apply Below.drew) | (with_reducible apply below_alloc) | ((with_reducible refine Below.alloc ?_ ?_ _); rotate_left; focus (first | (simp; done) | (simp; omega) | omega)) | ((with_reducible refine Below.setCell ?_ ?_ _); rotate_left; focus (first | (simp; done) | (simp; omega) | omega)))
          · have hi := (HY.out rfl).1
            have i0 : (0 : Int) ≤ (i : Int) := by omega
            have i1 : (i : Int) < (t.ents.length : Int) := by omega
            obtain ⟨bb, off, ha, hcc⟩ := HD.out (by omega)
            subst ha
            have cc := hcc i hi
            have hz := HF.out
            rw [find_at HRI.out hi (HY.out rfl).2] at hz
            injection hz with hz1 hz2
            subst hz1 hz2
            obtain ⟨x, hx⟩ : ∃ x, x = t.ents.getD i default := ⟨_, rfl⟩
            rw [← hx] at cc
            have HX := Lib.hid hx
            have c0 := keep HB.out cc.1.1.1
            have c1 := keep HB.out cc.1.1.2
            have c2 := keep HB.out cc.1.2
            have c3 := keep HB.out cc.2
            clear hcc cc hx hi HF
            go_wp2_with fail
            refine bodyPost_ret (v := .tuple #[.agg #[.int .i64 x.off, .int .i64 x.id, .string x.key, .string x.body], .int .i64 0]) (by simp [results, Try.results70, go_sem, r0, r1, r2, r3]) rfl ⟨by rw [← HX.out], ?_⟩
            repeat (first | (with_reducible exact HB.out) | (with_reducible exact Below.refl _ _) | (with_reducible apply Below.drew) | (with_reducible apply below_alloc) | ((with_reducible refine Below.alloc ?_ ?_ _); rotate_left; focus (first | (simp; done) | (simp; omega) | omega)) | ((with_reducible refine Below.setCell ?_ ?_ _); rotate_left; focus (first | (simp; done) | (simp; omega) | omega)))
  · have HM := Lib.hid hm
    rw [fetchP, if_neg hm] at hf
    cases hf
    clear hm hs hk
    go_enter Try.func70, Try.ntmps70
    go_wp2_with fail
    refine Calls.mono (check_no ?_ HK.out HM.out) ?_
    · exact T.out.below (by repeat (first | (with_reducible exact Below.refl _ _) | (with_reducible exact Below.refl _ _) | (with_reducible apply Below.drew) | (with_reducible apply below_alloc) | ((with_reducible refine Below.alloc ?_ ?_ _); rotate_left; focus (first | (simp; done) | (simp; omega) | omega)) | ((with_reducible refine Below.setCell ?_ ?_ _); rotate_left; focus (first | (simp; done) | (simp; omega) | omega))))
    rintro e w2 ⟨rfl, hb⟩
    have HB : Hid (Below w.heap.size w _) := below_step (by repeat (first | (with_reducible exact Below.refl _ _) | (with_reducible exact Below.refl _ _) | (with_reducible apply Below.drew) | (with_reducible apply below_alloc) | ((with_reducible refine Below.alloc ?_ ?_ _); rotate_left; focus (first | (simp; done) | (simp; omega) | omega)) | ((with_reducible refine Below.setCell ?_ ?_ _); rotate_left; focus (first | (simp; done) | (simp; omega) | omega)))) hb
    have R : Blk _ (w.heap.size + 1) _ _ := Blk.step (by repeat (first | ((with_reducible apply Blk.new); focus (first | rfl | (simp; done) | (simp; omega))) | (with_reducible apply Blk.drew) | (with_reducible apply Blk.alloc) | (with_reducible apply Blk.set_) | ((with_reducible apply Blk.far); rotate_left; focus (first | (simp; done) | (simp; omega) | omega)))) hb
    obtain ⟨r0, r1, r2, r3, rz⟩ := cells4 R
    have rl := Blk.lt R
    have HR := Lib.hid R
    clear R
    clear hb
    go_wp2_with fail
    refine bodyPost_ret (v := .tuple #[.agg #[.int .i64 0, .int .i64 0, .string ⟨#[]⟩, .string ⟨#[]⟩], .int .i64 8]) (by simp [results, Try.results70, go_sem, r0, r1, r2, r3]) rfl ⟨rfl, ?_⟩
    repeat (first | (with_reducible exact HB.out) | (with_reducible exact Below.refl _ _) | (with_reducible apply Below.drew) | (with_reducible apply below_alloc) | ((with_reducible refine Below.alloc ?_ ?_ _); rotate_left; focus (first | (simp; done) | (simp; omega) | omega)) | ((with_reducible refine Below.setCell ?_ ?_ _); rotate_left; focus (first | (simp; done) | (simp; omega) | omega)))
end Go.Proofs.Ytblgmjbajnkcdab
/-
  topic.Add. No condition but that the topic reads.
-/
namespace Go.Proofs.Ytblgmjbajnkcdab
open Go.RowKit

set_option maxHeartbeats 4000000 in
set_option maxRecDepth 100000 in
theorem add_any {v : Value} {t u : Top} {w : World} {x y : Int} (id : Int) (k b : ByteArray) (h : TopR w v t) (hk : ∀ x ∈ t.ents, x.key.size ≤ maxLen) (hf : addP t id k b = (u, x, y)) :
    Calls Try.prog 77 #[v, .int .i64 id, .string k, .string b] w (TopEnd2 u x y w) := by
  obtain ⟨i0, hi, hz0, hz1, hz2⟩ := info_parts info_ent
  have T := Lib.hid h
  have HK := Lib.hid hk
  obtain ⟨a, cap, rfl, hs⟩ := h
  by_cases hm : t.may
  · have HM := Lib.hid hm
    have HL := Lib.hid (show t.ents.length ≤ 200 from hm.1.2.2.2.2.2.2)
    have n0 : 0 ≤ t.next := hm.1.1
    have n1 : t.next ≤ 1073741824 := hm.1.2.1
    rw [addP, if_pos hm] at hf
    by_cases h1 : id < 0 ∨ 6291456 ≤ id
    · rw [if_pos h1] at hf
      cases hf
      clear hm hs hk
      by_cases h2 : id < 0
      · clear h1
        go_enter Try.func77, Try.ntmps77
        go_wp2_with fail
        refine Calls.mono (check_yes ?_ HK.out HM.out) ?_
        · exact T.out.below (by repeat (first | (with_reducible exact Below.refl _ _) | (with_reducible exact Below.refl _ _) | (with_reducible apply Below.drew) | (with_reducible apply below_alloc) | ((with_reducible refine Below.alloc ?_ ?_ _); rotate_left; focus (first | (simp; done) | (simp; omega) | omega)) | ((with_reducible refine Below.setCell ?_ ?_ _); rotate_left; focus (first | (simp; done) | (simp; omega) | omega))))
        rintro e w2 ⟨rfl, hb⟩
        have HB : Hid (Below w.heap.size w _) := below_step (by repeat (first | (with_reducible exact Below.refl _ _) | (with_reducible exact Below.refl _ _) | (with_reducible apply Below.drew) | (with_reducible apply below_alloc) | ((with_reducible refine Below.alloc ?_ ?_ _); rotate_left; focus (first | (simp; done) | (simp; omega) | omega)) | ((with_reducible refine Below.setCell ?_ ?_ _); rotate_left; focus (first | (simp; done) | (simp; omega) | omega)))) hb
        have R : Blk _ (w.heap.size + 1) _ _ := Blk.step (by repeat (first | ((with_reducible apply Blk.new); focus (first | rfl | (simp; done) | (simp; omega))) | (with_reducible apply Blk.drew) | (with_reducible apply Blk.alloc) | (with_reducible apply Blk.set_) | ((with_reducible apply Blk.far); rotate_left; focus (first | (simp; done) | (simp; omega) | omega)))) hb
        obtain ⟨r0, r1, r2, r3, rz⟩ := cells4 R
        have rl := Blk.lt R
        have HR := Lib.hid R
        clear R
        clear hb
        go_wp2_with fail
        refine bodyPost_ret (v := .tuple #[.agg #[.int .i64 0, .int .i64 0, .int .i64 0, .slice none 0 0], .int .i64 0, .int .i64 2]) (by simp [results, Try.results77, go_sem, r0, r1, r2, r3]) rfl (topEnd2_zero _ _ rfl ?_)
        repeat (first | (with_reducible exact HB.out) | (with_reducible exact Below.refl _ _) | (with_reducible apply Below.drew) | (with_reducible apply below_alloc) | ((with_reducible refine Below.alloc ?_ ?_ _); rotate_left; focus (first | (simp; done) | (simp; omega) | omega)) | ((with_reducible refine Below.setCell ?_ ?_ _); rotate_left; focus (first | (simp; done) | (simp; omega) | omega)))
      · have h3 : 6291456 ≤ id := by omega
        clear h1
        go_enter Try.func77, Try.ntmps77
        go_wp2_with fail
        refine Calls.mono (check_yes ?_ HK.out HM.out) ?_
        · exact T.out.below (by repeat (first | (with_reducible exact Below.refl _ _) | (with_reducible exact Below.refl _ _) | (with_reducible apply Below.drew) | (with_reducible apply below_alloc) | ((with_reducible refine Below.alloc ?_ ?_ _); rotate_left; focus (first | (simp; done) | (simp; omega) | omega)) | ((with_reducible refine Below.setCell ?_ ?_ _); rotate_left; focus (first | (simp; done) | (simp; omega) | omega))))
        rintro e w2 ⟨rfl, hb⟩
        have HB : Hid (Below w.heap.size w _) := below_step (by repeat (first | (with_reducible exact Below.refl _ _) | (with_reducible exact Below.refl _ _) | (with_reducible apply Below.drew) | (with_reducible apply below_alloc) | ((with_reducible refine Below.alloc ?_ ?_ _); rotate_left; focus (first | (simp; done) | (simp; omega) | omega)) | ((with_reducible refine Below.setCell ?_ ?_ _); rotate_left; focus (first | (simp; done) | (simp; omega) | omega)))) hb
        have R : Blk _ (w.heap.size + 1) _ _ := Blk.step (by repeat (first | ((with_reducible apply Blk.new); focus (first | rfl | (simp; done) | (simp; omega))) | (with_reducible apply Blk.drew) | (with_reducible apply Blk.alloc) | (with_reducible apply Blk.set_) | ((with_reducible apply Blk.far); rotate_left; focus (first | (simp; done) | (simp; omega) | omega)))) hb
        obtain ⟨r0, r1, r2, r3, rz⟩ := cells4 R
        have rl := Blk.lt R
        have HR := Lib.hid R
        clear R
        clear hb
        go_wp2_with fail
        refine bodyPost_ret (v := .tuple #[.agg #[.int .i64 0, .int .i64 0, .int .i64 0, .slice none 0 0], .int .i64 0, .int .i64 2]) (by simp [results, Try.results77, go_sem, r0, r1, r2, r3]) rfl (topEnd2_zero _ _ rfl ?_)
        repeat (first | (with_reducible exact HB.out) | (with_reducible exact Below.refl _ _) | (with_reducible apply Below.drew) | (with_reducible apply below_alloc) | ((with_reducible refine Below.alloc ?_ ?_ _); rotate_left; focus (first | (simp; done) | (simp; omega) | omega)) | ((with_reducible refine Below.setCell ?_ ?_ _); rotate_left; focus (first | (simp; done) | (simp; omega) | omega)))
    · rw [if_neg h1] at hf
      have h1a : 0 ≤ id := by omega
      have h1b : id < 6291456 := by omega
      clear h1
      by_cases h2 : 16 < k.size ∨ 64 < b.size
      · rw [if_pos h2] at hf
        cases hf
        have E := fun w => entry_no t.next id k b w (by omega)
        have HE := Lib.hid E
        clear hm hs hk E h2
        go_enter Try.func77, Try.ntmps77
        go_wp2_with fail
        refine Calls.mono (check_yes ?_ HK.out HM.out) ?_
        · exact T.out.below (by repeat (first | (with_reducible exact Below.refl _ _) | (with_reducible exact Below.refl _ _) | (with_reducible apply Below.drew) | (with_reducible apply below_alloc) | ((with_reducible refine Below.alloc ?_ ?_ _); rotate_left; focus (first | (simp; done) | (simp; omega) | omega)) | ((with_reducible refine Below.setCell ?_ ?_ _); rotate_left; focus (first | (simp; done) | (simp; omega) | omega))))
        rintro e w2 ⟨rfl, hb⟩
        have HB : Hid (Below w.heap.size w _) := below_step (by repeat (first | (with_reducible exact Below.refl _ _) | (with_reducible exact Below.refl _ _) | (with_reducible apply Below.drew) | (with_reducible apply below_alloc) | ((with_reducible refine Below.alloc ?_ ?_ _); rotate_left; focus (first | (simp; done) | (simp; omega) | omega)) | ((with_reducible refine Below.setCell ?_ ?_ _); rotate_left; focus (first | (simp; done) | (simp; omega) | omega)))) hb
        have R : Blk _ (w.heap.size + 1) _ _ := Blk.step (by repeat (first | ((with_reducible apply Blk.new); focus (first | rfl | (simp; done) | (simp; omega))) | (with_reducible apply Blk.drew) | (with_reducible apply Blk.alloc) | (with_reducible apply Blk.set_) | ((with_reducible apply Blk.far); rotate_left; focus (first | (simp; done) | (simp; omega) | omega)))) hb
        obtain ⟨r0, r1, r2, r3, rz⟩ := cells4 R
        have rl := Blk.lt R
        have HR := Lib.hid R
        clear R
        have X : Blk _ (w.heap.size + 2) _ _ := Blk.step (by repeat (first | ((with_reducible apply Blk.new); focus (first | rfl | (simp; done) | (simp; omega))) | (with_reducible apply Blk.drew) | (with_reducible apply Blk.alloc) | (with_reducible apply Blk.set_) | ((with_reducible apply Blk.far); rotate_left; focus (first | (simp; done) | (simp; omega) | omega)))) hb
        obtain ⟨x0, x1, x2, x3, xz⟩ := cells4 X
        have xl := Blk.lt X
        have HX := Lib.hid X
        clear X
        clear hb
        go_wp2_with fail
        refine (HE.out _).mono ?_
        rintro e w3 ⟨rfl, hb⟩
        replace HB : Hid (Below w.heap.size w _) := below_step (by repeat (first | (with_reducible exact HB.out) | (with_reducible exact Below.refl _ _) | (with_reducible apply Below.drew) | (with_reducible apply below_alloc) | ((with_reducible refine Below.alloc ?_ ?_ _); rotate_left; focus (first | (simp; done) | (simp; omega) | omega)) | ((with_reducible refine Below.setCell ?_ ?_ _); rotate_left; focus (first | (simp; done) | (simp; omega) | omega)))) hb
        clear r0 r1 r2 r3 rz rl
        replace HR : Hid (Blk _ (w.heap.size + 1) _ _) := Blk.step (by repeat (first | (with_reducible exact HR.out) | ((with_reducible apply Blk.new); focus (first | rfl | (simp; done) | (simp; omega))) | (with_reducible apply Blk.drew) | (with_reducible apply Blk.alloc) | (with_reducible apply Blk.set_) | ((with_reducible apply Blk.far); rotate_left; focus (first | (simp; done) | (simp; omega) | omega)))) hb
        obtain ⟨r0, r1, r2, r3, rz⟩ := cells4 HR.out
        have rl := Blk.lt HR.out
        clear hb
        go_wp2_with fail
        refine bodyPost_ret (v := .tuple #[.agg #[.int .i64 0, .int .i64 0, .int .i64 0, .slice none 0 0], .int .i64 0, .int .i64 3]) (by simp [results, Try.results77, go_sem, r0, r1, r2, r3]) rfl (topEnd2_zero _ _ rfl ?_)
        repeat (first | (with_reducible exact HB.out) | (with_reducible exact Below.refl _ _) | (with_reducible apply Below.drew) | (with_reducible apply below_alloc) | ((with_reducible refine Below.alloc ?_ ?_ _); rotate_left; focus (first | (simp; done) | (simp; omega) | omega)) | ((with_reducible refine Below.setCell ?_ ?_ _); rotate_left; focus (first | (simp; done) | (simp; omega) | omega)))
      · rw [if_neg h2] at hf
        have E := fun w => entry_yes t.next id k b w h1a h1b (by omega) (by omega)
        have HE := Lib.hid E
        clear E h2
        by_cases h3 : t.next = 1073741824 ∨ t.ents.length = 200
        · rw [if_pos h3] at hf
          cases hf
          have h4 : (t.next == 1073741824) = true ∨ ((t.next == 1073741824) = false ∧ ((t.ents.length : Int) == 200) = true) := by
            by_cases h5 : t.next = 1073741824
            · exact Or.inl (by simpa using h5)
            · exact Or.inr ⟨by simpa using h5, by have := h3.resolve_left h5; simp; omega⟩
          clear hm hs hk h3
          rcases h4 with h4 | ⟨h4, h5⟩
          all_goals
            go_enter Try.func77, Try.ntmps77
            go_wp2_with fail
            refine Calls.mono (check_yes ?_ HK.out HM.out) ?_
            · exact T.out.below (by repeat (first | (with_reducible exact Below.refl _ _) | (with_reducible exact Below.refl _ _) | (with_reducible apply Below.drew) | (with_reducible apply below_alloc) | ((with_reducible refine Below.alloc ?_ ?_ _); rotate_left; focus (first | (simp; done) | (simp; omega) | omega)) | ((with_reducible refine Below.setCell ?_ ?_ _); rotate_left; focus (first | (simp; done) | (simp; omega) | omega))))
            rintro e w2 ⟨rfl, hb⟩
            have HB : Hid (Below w.heap.size w _) := below_step (by repeat (first | (with_reducible exact Below.refl _ _) | (with_reducible exact Below.refl _ _) | (with_reducible apply Below.drew) | (with_reducible apply below_alloc) | ((with_reducible refine Below.alloc ?_ ?_ _); rotate_left; focus (first | (simp; done) | (simp; omega) | omega)) | ((with_reducible refine Below.setCell ?_ ?_ _); rotate_left; focus (first | (simp; done) | (simp; omega) | omega)))) hb
            have A : Blk _ (w.heap.size) _ _ := Blk.step (by repeat (first | ((with_reducible apply Blk.new); focus (first | rfl | (simp; done) | (simp; omega))) | (with_reducible apply Blk.drew) | (with_reducible apply Blk.alloc) | (with_reducible apply Blk.set_) | ((with_reducible apply Blk.far); rotate_left; focus (first | (simp; done) | (simp; omega) | omega)))) hb
            obtain ⟨a0, a1, a2, a3, az⟩ := cells4 A
            have al := Blk.lt A
            have HA := Lib.hid A
            clear A
            have R : Blk _ (w.heap.size + 1) _ _ := Blk.step (by repeat (first | ((with_reducible apply Blk.new); focus (first | rfl | (simp; done) | (simp; omega))) | (with_reducible apply Blk.drew) | (with_reducible apply Blk.alloc) | (with_reducible apply Blk.set_) | ((with_reducible apply Blk.far); rotate_left; focus (first | (simp; done) | (simp; omega) | omega)))) hb
            obtain ⟨r0, r1, r2, r3, rz⟩ := cells4 R
            have rl := Blk.lt R
            have HR := Lib.hid R
            clear R
            have X : Blk _ (w.heap.size + 2) _ _ := Blk.step (by repeat (first | ((with_reducible apply Blk.new); focus (first | rfl | (simp; done) | (simp; omega))) | (with_reducible apply Blk.drew) | (with_reducible apply Blk.alloc) | (with_reducible apply Blk.set_) | ((with_reducible apply Blk.far); rotate_left; focus (first | (simp; done) | (simp; omega) | omega)))) hb
            obtain ⟨x0, x1, x2, x3, xz⟩ := cells4 X
            have xl := Blk.lt X
            have HX := Lib.hid X
            clear X
            clear hb
            go_wp2_with fail
            refine (HE.out _).mono ?_
            rintro e w3 ⟨rfl, hb⟩
            replace HB : Hid (Below w.heap.size w _) := below_step (by repeat (first | (with_reducible exact HB.out) | (with_reducible exact Below.refl _ _) | (with_reducible apply Below.drew) | (with_reducible apply below_alloc) | ((with_reducible refine Below.alloc ?_ ?_ _); rotate_left; focus (first | (simp; done) | (simp; omega) | omega)) | ((with_reducible refine Below.setCell ?_ ?_ _); rotate_left; focus (first | (simp; done) | (simp; omega) | omega)))) hb
            clear a0 a1 a2 a3 az al
            replace HA : Hid (Blk _ (w.heap.size) _ _) := Blk.step (by repeat (first | (with_reducible exact HA.out) | ((with_reducible apply Blk.new); focus (first | rfl | (simp; done) | (simp; omega))) | (with_reducible apply Blk.drew) | (with_reducible apply Blk.alloc) | (with_reducible apply Blk.set_) | ((with_reducible apply Blk.far); rotate_left; focus (first | (simp; done) | (simp; omega) | omega)))) hb
            obtain ⟨a0, a1, a2, a3, az⟩ := cells4 HA.out
            have al := Blk.lt HA.out
            clear r0 r1 r2 r3 rz rl
            replace HR : Hid (Blk _ (w.heap.size + 1) _ _) := Blk.step (by repeat (first | (with_reducible exact HR.out) | ((with_reducible apply Blk.new); focus (first | rfl | (simp; done) | (simp; omega))) | (with_reducible apply Blk.drew) | (with_reducible apply Blk.alloc) | (with_reducible apply Blk.set_) | ((with_reducible apply Blk.far); rotate_left; focus (first | (simp; done) | (simp; omega) | omega)))) hb
            obtain ⟨r0, r1, r2, r3, rz⟩ := cells4 HR.out
            have rl := Blk.lt HR.out
            clear hb
            go_wp2_with fail
            refine bodyPost_ret (v := .tuple #[.agg #[.int .i64 0, .int .i64 0, .int .i64 0, .slice none 0 0], .int .i64 0, .int .i64 9]) (by simp [results, Try.results77, go_sem, r0, r1, r2, r3]) rfl (topEnd2_zero _ _ rfl ?_)
            repeat (first | (with_reducible exact HB.out) | (with_reducible exact Below.refl _ _) | (with_reducible apply Below.drew) | (with_reducible apply below_alloc) | ((with_reducible refine Below.alloc ?_ ?_ _); rotate_left; focus (first | (simp; done) | (simp; omega) | omega)) | ((with_reducible refine Below.setCell ?_ ?_ _); rotate_left; focus (first | (simp; done) | (simp; omega) | omega)))
        · rw [if_neg h3] at hf
          cases hf
          have h4 : (t.next == 1073741824) = false := by simp; omega
          have h5 : ((t.ents.length : Int) == 200) = false := by simp; omega
          have HL2 := Lib.hid (show t.ents.length ≤ 1000000 by have := HL.out; omega)
          have n2 : t.next < 1073741824 := by omega
          clear hm hs hk h3
          go_enter Try.func77, Try.ntmps77
          go_wp2_with fail
          refine Calls.mono (check_yes ?_ HK.out HM.out) ?_
          · exact T.out.below (by repeat (first | (with_reducible exact Below.refl _ _) | (with_reducible exact Below.refl _ _) | (with_reducible apply Below.drew) | (with_reducible apply below_alloc) | ((with_reducible refine Below.alloc ?_ ?_ _); rotate_left; focus (first | (simp; done) | (simp; omega) | omega)) | ((with_reducible refine Below.setCell ?_ ?_ _); rotate_left; focus (first | (simp; done) | (simp; omega) | omega))))
          rintro e w2 ⟨rfl, hb⟩
          have HB : Hid (Below w.heap.size w _) := below_step (by repeat (first | (with_reducible exact Below.refl _ _) | (with_reducible exact Below.refl _ _) | (with_reducible apply Below.drew) | (with_reducible apply below_alloc) | ((with_reducible refine Below.alloc ?_ ?_ _); rotate_left; focus (first | (simp; done) | (simp; omega) | omega)) | ((with_reducible refine Below.setCell ?_ ?_ _); rotate_left; focus (first | (simp; done) | (simp; omega) | omega)))) hb
          have A : Blk _ (w.heap.size) _ _ := Blk.step (by repeat (first | ((with_reducible apply Blk.new); focus (first | rfl | (simp; done) | (simp; omega))) | (with_reducible apply Blk.drew) | (with_reducible apply Blk.alloc) | (with_reducible apply Blk.set_) | ((with_reducible apply Blk.far); rotate_left; focus (first | (simp; done) | (simp; omega) | omega)))) hb
          obtain ⟨a0, a1, a2, a3, az⟩ := cells4 A
          have al := Blk.lt A
          have HA := Lib.hid A
          clear A
          have R : Blk _ (w.heap.size + 1) _ _ := Blk.step (by repeat (first | ((with_reducible apply Blk.new); focus (first | rfl | (simp; done) | (simp; omega))) | (with_reducible apply Blk.drew) | (with_reducible apply Blk.alloc) | (with_reducible apply Blk.set_) | ((with_reducible apply Blk.far); rotate_left; focus (first | (simp; done) | (simp; omega) | omega)))) hb
          obtain ⟨r0, r1, r2, r3, rz⟩ := cells4 R
          have rl := Blk.lt R
          have HR := Lib.hid R
          clear R
          have X : Blk _ (w.heap.size + 2) _ _ := Blk.step (by repeat (first | ((with_reducible apply Blk.new); focus (first | rfl | (simp; done) | (simp; omega))) | (with_reducible apply Blk.drew) | (with_reducible apply Blk.alloc) | (with_reducible apply Blk.set_) | ((with_reducible apply Blk.far); rotate_left; focus (first | (simp; done) | (simp; omega) | omega)))) hb
          obtain ⟨x0, x1, x2, x3, xz⟩ := cells4 X
          have xl := Blk.lt X
          have HX := Lib.hid X
          clear X
          replace T : Hid (TopR _ _ _) := topR_step T.out (by repeat (first | (with_reducible exact Below.refl _ _) | (with_reducible exact Below.refl _ _) | (with_reducible apply Below.drew) | (with_reducible apply below_alloc) | ((with_reducible refine Below.alloc ?_ ?_ _); rotate_left; focus (first | (simp; done) | (simp; omega) | omega)) | ((with_reducible refine Below.setCell ?_ ?_ _); rotate_left; focus (first | (simp; done) | (simp; omega) | omega)))) hb
          clear hb
          go_wp2_with fail
          refine (HE.out _).mono ?_
          rintro e w3 ⟨rfl, hb⟩
          replace HB : Hid (Below w.heap.size w _) := below_step (by repeat (first | (with_reducible exact HB.out) | (with_reducible exact Below.refl _ _) | (with_reducible apply Below.drew) | (with_reducible apply below_alloc) | ((with_reducible refine Below.alloc ?_ ?_ _); rotate_left; focus (first | (simp; done) | (simp; omega) | omega)) | ((with_reducible refine Below.setCell ?_ ?_ _); rotate_left; focus (first | (simp; done) | (simp; omega) | omega)))) hb
          clear a0 a1 a2 a3 az al
          replace HA : Hid (Blk _ (w.heap.size) _ _) := Blk.step (by repeat (first | (with_reducible exact HA.out) | ((with_reducible apply Blk.new); focus (first | rfl | (simp; done) | (simp; omega))) | (with_reducible apply Blk.drew) | (with_reducible apply Blk.alloc) | (with_reducible apply Blk.set_) | ((with_reducible apply Blk.far); rotate_left; focus (first | (simp; done) | (simp; omega) | omega)))) hb
          obtain ⟨a0, a1, a2, a3, az⟩ := cells4 HA.out
          have al := Blk.lt HA.out
          clear r0 r1 r2 r3 rz rl
          replace HR : Hid (Blk _ (w.heap.size + 1) _ _) := Blk.step (by repeat (first | (with_reducible exact HR.out) | ((with_reducible apply Blk.new); focus (first | rfl | (simp; done) | (simp; omega))) | (with_reducible apply Blk.drew) | (with_reducible apply Blk.alloc) | (with_reducible apply Blk.set_) | ((with_reducible apply Blk.far); rotate_left; focus (first | (simp; done) | (simp; omega) | omega)))) hb
          obtain ⟨r0, r1, r2, r3, rz⟩ := cells4 HR.out
          have rl := Blk.lt HR.out
          clear x0 x1 x2 x3 xz xl
          replace HX : Hid (Blk _ (w.heap.size + 2) _ _) := Blk.step (by repeat (first | (with_reducible exact HX.out) | ((with_reducible apply Blk.new); focus (first | rfl | (simp; done) | (simp; omega))) | (with_reducible apply Blk.drew) | (with_reducible apply Blk.alloc) | (with_reducible apply Blk.set_) | ((with_reducible apply Blk.far); rotate_left; focus (first | (simp; done) | (simp; omega) | omega)))) hb
          obtain ⟨x0, x1, x2, x3, xz⟩ := cells4 HX.out
          have xl := Blk.lt HX.out
          replace T : Hid (TopR _ _ _) := topR_step T.out (by repeat (first | (with_reducible exact Below.refl _ _) | (with_reducible exact Below.refl _ _) | (with_reducible apply Below.drew) | (with_reducible apply below_alloc) | ((with_reducible refine Below.alloc ?_ ?_ _); rotate_left; focus (first | (simp; done) | (simp; omega) | omega)) | ((with_reducible refine Below.setCell ?_ ?_ _); rotate_left; focus (first | (simp; done) | (simp; omega) | omega)))) hb
          clear hb
          go_wp2_with fail
          refine Calls.mono (topTwin_any ?_ HL2.out) ?_
          · exact T.out.below (by repeat (first | (with_reducible exact Below.refl _ _) | (with_reducible exact Below.refl _ _) | (with_reducible apply Below.drew) | (with_reducible apply below_alloc) | ((with_reducible refine Below.alloc ?_ ?_ _); rotate_left; focus (first | (simp; done) | (simp; omega) | omega)) | ((with_reducible refine Below.setCell ?_ ?_ _); rotate_left; focus (first | (simp; done) | (simp; omega) | omega))))
          rintro e w4 ⟨a4, cap4, rfl, o4, hb⟩
          have s4 : w.heap.size + 2 < w3.heap.size := xl
          replace HB : Hid (Below w.heap.size w _) := below_step (by repeat (first | (with_reducible exact HB.out) | (with_reducible exact Below.refl _ _) | (with_reducible apply Below.drew) | (with_reducible apply below_alloc) | ((with_reducible refine Below.alloc ?_ ?_ _); rotate_left; focus (first | (simp; done) | (simp; omega) | omega)) | ((with_reducible refine Below.setCell ?_ ?_ _); rotate_left; focus (first | (simp; done) | (simp; omega) | omega)))) hb
          clear a0 a1 a2 a3 az al
          replace HA : Hid (Blk _ (w.heap.size) _ _) := Blk.step (by repeat (first | (with_reducible exact HA.out) | ((with_reducible apply Blk.new); focus (first | rfl | (simp; done) | (simp; omega))) | (with_reducible apply Blk.drew) | (with_reducible apply Blk.alloc) | (with_reducible apply Blk.set_) | ((with_reducible apply Blk.far); rotate_left; focus (first | (simp; done) | (simp; omega) | omega)))) hb
          obtain ⟨a0, a1, a2, a3, az⟩ := cells4 HA.out
          have al := Blk.lt HA.out
          clear r0 r1 r2 r3 rz rl
          replace HR : Hid (Blk _ (w.heap.size + 1) _ _) := Blk.step (by repeat (first | (with_reducible exact HR.out) | ((with_reducible apply Blk.new); focus (first | rfl | (simp; done) | (simp; omega))) | (with_reducible apply Blk.drew) | (with_reducible apply Blk.alloc) | (with_reducible apply Blk.set_) | ((with_reducible apply Blk.far); rotate_left; focus (first | (simp; done) | (simp; omega) | omega)))) hb
          obtain ⟨r0, r1, r2, r3, rz⟩ := cells4 HR.out
          have rl := Blk.lt HR.out
          clear x0 x1 x2 x3 xz xl
          replace HX : Hid (Blk _ (w.heap.size + 2) _ _) := Blk.step (by repeat (first | (with_reducible exact HX.out) | ((with_reducible apply Blk.new); focus (first | rfl | (simp; done) | (simp; omega))) | (with_reducible apply Blk.drew) | (with_reducible apply Blk.alloc) | (with_reducible apply Blk.set_) | ((with_reducible apply Blk.far); rotate_left; focus (first | (simp; done) | (simp; omega) | omega)))) hb
          obtain ⟨x0, x1, x2, x3, xz⟩ := cells4 HX.out
          have xl := Blk.lt HX.out
          have O4 := Lib.hid o4
          have s5 : w3.heap.size ≤ w4.heap.size := hb.size
          clear hb o4 h4 h5
          go_wp2_with (at_builtin; go_must (refine wpList_append_own _ rfl _ _ 68 rfl w3.heap.size 29 i0 _ 4 48 Try.underlying68 hi hz0 hz1 hz2 rfl (by decide) _ _ _ rfl (own_alloc (own_set (own_set (own_set (own_set O4.out (by omega)) (by omega)) (by omega)) (by omega))) ⟨w4.heap.size, 0, none⟩ 1 1 (entCells ⟨t.next, id, k, b⟩) rfl rfl ?_ (by intro v hv; simp [entCells] at hv; rcases hv with rfl | rfl | rfl | rfl <;> rfl) (by have := HL.out; unfold maxLen; omega) (by have := HL.out; omega) (by simp; omega) ?_))
          · exact news_ent ⟨t.next, id, k, b⟩ (by simp)
          · intro v' w5 hown hgrow _
            have OW : OwnE w5 w3.heap.size v' (t.ents ++ [⟨t.next, id, k, b⟩]) := by
              show w5.ownsRow _ _ _ _ _ _
              simpa [List.flatMap_append] using hown
            obtain ⟨a5, cap5, hv5⟩ := own_shape OW
            subst hv5
            have O5 := Lib.hid OW
            have HAA : Hid (Blk _ (w.heap.size) _ _) := Blk.grown (by repeat (first | (with_reducible exact HA.out) | ((with_reducible apply Blk.new); focus (first | rfl | (simp; done) | (simp; omega))) | (with_reducible apply Blk.drew) | (with_reducible apply Blk.alloc) | (with_reducible apply Blk.set_) | ((with_reducible apply Blk.far); rotate_left; focus (first | (simp; done) | (simp; omega) | omega)))) hgrow (own_ne O4.out (by omega))
            obtain ⟨aa0, aa1, aa2, aa3, aaz⟩ := cells4 HAA.out
            have aal := Blk.lt HAA.out
            have HRR : Hid (Blk _ (w.heap.size + 1) _ _) := Blk.grown (by repeat (first | (with_reducible exact HR.out) | ((with_reducible apply Blk.new); focus (first | rfl | (simp; done) | (simp; omega))) | (with_reducible apply Blk.drew) | (with_reducible apply Blk.alloc) | (with_reducible apply Blk.set_) | ((with_reducible apply Blk.far); rotate_left; focus (first | (simp; done) | (simp; omega) | omega)))) hgrow (own_ne O4.out (by omega))
            obtain ⟨rr0, rr1, rr2, rr3, rrz⟩ := cells4 HRR.out
            have rrl := Blk.lt HRR.out
            have HXX : Hid (Blk _ (w.heap.size + 2) _ _) := Blk.grown (by repeat (first | (with_reducible exact HX.out) | ((with_reducible apply Blk.new); focus (first | rfl | (simp; done) | (simp; omega))) | (with_reducible apply Blk.drew) | (with_reducible apply Blk.alloc) | (with_reducible apply Blk.set_) | ((with_reducible apply Blk.far); rotate_left; focus (first | (simp; done) | (simp; omega) | omega)))) hgrow (own_ne O4.out (by omega))
            obtain ⟨xx0, xx1, xx2, xx3, xxz⟩ := cells4 HXX.out
            have xxl := Blk.lt HXX.out
            have HB5 : Hid (Below w.heap.size w w5) := below_grown (by repeat (first | (with_reducible exact HB.out) | (with_reducible exact Below.refl _ _) | (with_reducible apply Below.drew) | (with_reducible apply below_alloc) | ((with_reducible refine Below.alloc ?_ ?_ _); rotate_left; focus (first | (simp; done) | (simp; omega) | omega)) | ((with_reducible refine Below.setCell ?_ ?_ _); rotate_left; focus (first | (simp; done) | (simp; omega) | omega)))) hgrow (own_alloc (own_set (own_set (own_set (own_set O4.out (by omega)) (by omega)) (by omega)) (by omega))) (by omega)
            have wn : IntKind.i64.wrap (t.next + 1) = t.next + 1 := IntWalk.i64_in _ (by omega)
            clear hown OW hgrow a0 a1 a2 a3 az r0 r1 r2 r3 rz x0 x1 x2 x3 xz
            go_wp2_with fail
            refine at_code (fun W => Blk W w.heap.size 70 [.int .i64 t.base, .int .i64 (t.next + 1), .int .i64 t.mark, .slice a5 (t.ents ++ [(⟨t.next, id, k, b⟩ : Ent)]).length cap5] ∧ Blk W (w.heap.size + 1) 70 [.int .i64 0, .int .i64 0, .int .i64 0, .slice none 0 0] ∧ Blk W (w.heap.size + 2) 29 (entCells ⟨t.next, id, k, b⟩) ∧ Below w.heap.size w W ∧ OwnE W w3.heap.size (.slice a5 (t.ents ++ [(⟨t.next, id, k, b⟩ : Ent)]).length cap5) (t.ents ++ [⟨t.next, id, k, b⟩])) ⟨?_, ?_, ?_, ?_, ?_⟩ ?_
            · have h := (HAA.out.set_ 3 (.slice a5 (t.ents ++ [(⟨t.next, id, k, b⟩ : Ent)]).length cap5)).set_ 1 (.int .i64 (t.next + 1))
              simpa using h
            · repeat (first | (with_reducible exact HRR.out) | ((with_reducible apply Blk.new); focus (first | rfl | (simp; done) | (simp; omega))) | (with_reducible apply Blk.drew) | (with_reducible apply Blk.alloc) | (with_reducible apply Blk.set_) | ((with_reducible apply Blk.far); rotate_left; focus (first | (simp; done) | (simp; omega) | omega)))
            · repeat (first | (with_reducible exact HXX.out) | ((with_reducible apply Blk.new); focus (first | rfl | (simp; done) | (simp; omega))) | (with_reducible apply Blk.drew) | (with_reducible apply Blk.alloc) | (with_reducible apply Blk.set_) | ((with_reducible apply Blk.far); rotate_left; focus (first | (simp; done) | (simp; omega) | omega)))
              exact HXX.out
            · repeat (first | (with_reducible exact HB5.out) | (with_reducible exact Below.refl _ _) | (with_reducible apply Below.drew) | (with_reducible apply below_alloc) | ((with_reducible refine Below.alloc ?_ ?_ _); rotate_left; focus (first | (simp; done) | (simp; omega) | omega)) | ((with_reducible refine Below.setCell ?_ ?_ _); rotate_left; focus (first | (simp; done) | (simp; omega) | omega)))
            · repeat (first | (with_reducible exact O5.out) | (with_reducible apply own_drew) | (with_reducible apply own_alloc) | ((with_reducible apply own_set); rotate_left; focus (first | (simp; done) | (simp; omega) | omega)))
            clear HAA HRR HXX HB5 O5 HA HR HX HB O4
            rintro W ⟨q1, q2, q3, q4, q5⟩
            obtain ⟨a0, a1, a2, a3, az⟩ := cells4 q1
            obtain ⟨r0, r1, r2, r3, rz⟩ := cells4 q2
            have x0 := q3.cell 0
            simp only [entCells, List.getElem?_cons_zero] at x0
            have Q4 := Lib.hid q4
            have Q5 := Lib.hid q5
            clear q1 q2 q3 q4 q5
            clear aa0 aa1 aa2 aa3 aaz rr0 rr1 rr2 rr3 rrz xx0 xx1 xx2 xx3 xxz T
            go_region_held3 (fun W => W.cell? ⟨w.heap.size, 0, none⟩ = some (.int .i64 t.base) ∧ W.cell? ⟨w.heap.size, 1, none⟩ = some (.int .i64 (t.next + 1)) ∧ W.cell? ⟨w.heap.size, 2, none⟩ = some (.int .i64 t.mark) ∧
                W.cell? ⟨w.heap.size, 3, none⟩ = some (.slice a5 (t.ents ++ [(⟨t.next, id, k, b⟩ : Ent)]).length cap5) ∧ W.cell? ⟨w.heap.size + 2, 0, none⟩ = some (.int .i64 t.next)) (go_keep) (fail)
            go_wp2_with fail
            refine bodyPost_ret (v := .tuple #[.agg #[.int .i64 t.base, .int .i64 (t.next + 1), .int .i64 t.mark, .slice a5 (t.ents ++ [(⟨t.next, id, k, b⟩ : Ent)]).length cap5], .int .i64 t.next, .int .i64 0]) (by simp [results, Try.results77, go_sem, r0, r1, r2, r3]) rfl ⟨a5, cap5, rfl, ?_, ?_⟩
            · refine own_base (B := w3.heap.size) ?_ (by omega)
              repeat (first | (with_reducible exact Q5.out) | (with_reducible apply own_drew) | (with_reducible apply own_alloc) | ((with_reducible apply own_set); rotate_left; focus (first | (simp; done) | (simp; omega) | omega)))
            · repeat (first | (with_reducible exact Q4.out) | (with_reducible exact Below.refl _ _) | (with_reducible apply Below.drew) | (with_reducible apply below_alloc) | ((with_reducible refine Below.alloc ?_ ?_ _); rotate_left; focus (first | (simp; done) | (simp; omega) | omega)) | ((with_reducible refine Below.setCell ?_ ?_ _); rotate_left; focus (first | (simp; done) | (simp; omega) | omega)))
  · have HM := Lib.hid hm
    rw [addP, if_neg hm] at hf
    cases hf
    clear hm hs hk
    go_enter Try.func77, Try.ntmps77
    go_wp2_with fail
    refine Calls.mono (check_no ?_ HK.out HM.out) ?_
    · exact T.out.below (by repeat (first | (with_reducible exact Below.refl _ _) | (with_reducible exact Below.refl _ _) | (with_reducible apply Below.drew) | (with_reducible apply below_alloc) | ((with_reducible refine Below.alloc ?_ ?_ _); rotate_left; focus (first | (simp; done) | (simp; omega) | omega)) | ((with_reducible refine Below.setCell ?_ ?_ _); rotate_left; focus (first | (simp; done) | (simp; omega) | omega))))
    rintro e w2 ⟨rfl, hb⟩
    have HB : Hid (Below w.heap.size w _) := below_step (by repeat (first | (with_reducible exact Below.refl _ _) | (with_reducible exact Below.refl _ _) | (with_reducible apply Below.drew) | (with_reducible apply below_alloc) | ((with_reducible refine Below.alloc ?_ ?_ _); rotate_left; focus (first | (simp; done) | (simp; omega) | omega)) | ((with_reducible refine Below.setCell ?_ ?_ _); rotate_left; focus (first | (simp; done) | (simp; omega) | omega)))) hb
    have R : Blk _ (w.heap.size + 1) _ _ := Blk.step (by repeat (first | ((with_reducible apply Blk.new); focus (first | rfl | (simp; done) | (simp; omega))) | (with_reducible apply Blk.drew) | (with_reducible apply Blk.alloc) | (with_reducible apply Blk.set_) | ((with_reducible apply Blk.far); rotate_left; focus (first | (simp; done) | (simp; omega) | omega)))) hb
    obtain ⟨r0, r1, r2, r3, rz⟩ := cells4 R
    have rl := Blk.lt R
    have HR := Lib.hid R
    clear R
    clear hb
    go_wp2_with fail
    refine bodyPost_ret (v := .tuple #[.agg #[.int .i64 0, .int .i64 0, .int .i64 0, .slice none 0 0], .int .i64 0, .int .i64 8]) (by simp [results, Try.results77, go_sem, r0, r1, r2, r3]) rfl (topEnd2_zero _ _ rfl ?_)
    repeat (first | (with_reducible exact HB.out) | (with_reducible exact Below.refl _ _) | (with_reducible apply Below.drew) | (with_reducible apply below_alloc) | ((with_reducible refine Below.alloc ?_ ?_ _); rotate_left; focus (first | (simp; done) | (simp; omega) | omega)) | ((with_reducible refine Below.setCell ?_ ?_ _); rotate_left; focus (first | (simp; done) | (simp; omega) | omega)))
end Go.Proofs.Ytblgmjbajnkcdab
/-
  Plain law of a message more: what is added may be, is fetched, and leaves all else as it was. No program in sight.
-/
namespace Go.Proofs.Ytblgmjbajnkcdab

theorem may_lt {t : Top} (h : t.may) {x : Ent} (hx : x ∈ t.ents) : x.off < t.next := by
  obtain ⟨i, hi, rfl⟩ := List.getElem_of_mem hx
  have := (h.2.1 i hi).2.2.1
  rwa [getD_at hi] at this

/-- What is added. -/
def addT (t : Top) (id : Int) (k b : ByteArray) : Top := ⟨t.base, t.next + 1, t.mark, t.ents ++ [⟨t.next, id, k, b⟩]⟩

theorem add_may {t : Top} {id : Int} {k b : ByteArray} (h : t.may) (h1 : 0 ≤ id ∧ id < 6291456 ∧ k.size ≤ 16 ∧ b.size ≤ 64) (h2 : t.next ≠ 1073741824) (h3 : t.ents.length ≠ 200) : (addT t id k b).may := by
  obtain ⟨⟨a1, a2, a3, a4, a5, a6, a7⟩, hg, hw⟩ := h
  have hlen : (t.ents ++ [(⟨t.next, id, k, b⟩ : Ent)]).length = t.ents.length + 1 := by simp
  have hpre : ∀ j, j < t.ents.length → (t.ents ++ [(⟨t.next, id, k, b⟩ : Ent)]).getD j default = t.ents.getD j default := fun j hj => by simp [List.getD, List.getElem?_append_left hj]
  have hlast : (t.ents ++ [(⟨t.next, id, k, b⟩ : Ent)]).getD t.ents.length default = ⟨t.next, id, k, b⟩ := by simp [List.getD]
  refine ⟨⟨by show 0 ≤ t.next + 1; omega, by show t.next + 1 ≤ _; omega, a3, by show t.base ≤ t.next + 1; omega, a5, by show t.mark ≤ t.next + 1; omega, by show (t.ents ++ _).length ≤ 200; rw [hlen]; omega⟩, fun i hi => ?_, ?_⟩
  · have hi' : i < t.ents.length + 1 := by rw [← hlen]; exact hi
    show Top.good ⟨t.base, t.next + 1, t.mark, t.ents ++ [⟨t.next, id, k, b⟩]⟩ i
    unfold Top.good
    simp only
    by_cases hil : i < t.ents.length
    · obtain ⟨g1, g2, g3, g4, g5⟩ := hg i hil
      rw [hpre i hil]
      refine ⟨g1, g2, by omega, fun h0 => ?_, fun hm j hj => ?_⟩
      · rw [hpre (i - 1) (by omega)]; exact g4 h0
      · rw [hpre j (by omega)]; exact g5 hm j hj
    · obtain rfl : i = t.ents.length := by omega
      rw [hlast]
      refine ⟨h1, a4, by show t.next < t.next + 1; omega, fun h0 => ?_, fun hm => ?_⟩
      · rw [hpre (t.ents.length - 1) (by omega)]
        exact (hg _ (by omega)).2.2.1
      · exfalso
        have hm' : t.next < t.mark := hm
        omega
  · show ((Top.whole ⟨t.base, t.next + 1, t.mark, t.ents ++ [⟨t.next, id, k, b⟩]⟩ (t.ents ++ [⟨t.next, id, k, b⟩]) : Nat) : Int) = t.next + 1 - max t.mark t.base
    have hw' : ((t.ents.countP fun x => decide (t.mark ≤ x.off) : Nat) : Int) = t.next - max t.mark t.base := hw
    have : Top.whole ⟨t.base, t.next + 1, t.mark, t.ents ++ [⟨t.next, id, k, b⟩]⟩ (t.ents ++ [⟨t.next, id, k, b⟩]) = (t.ents.countP fun x => decide (t.mark ≤ x.off)) + 1 := by
      unfold Top.whole
      rw [List.countP_append]
      simp [a6]
    rw [this]
    omega

theorem fetch_add_new {t : Top} {id : Int} {k b : ByteArray} (h : t.may) (hu : (addT t id k b).may) : fetchP (addT t id k b) t.next = (⟨t.next, id, k, b⟩, 0) := by
  have h0 : 0 ≤ t.next := h.1.1
  have h1 : t.base ≤ t.next := h.1.2.2.2.1
  have e : (addT t id k b).ents.find? (fun x => x.off == t.next) = some ⟨t.next, id, k, b⟩ := by
    show (t.ents ++ [(⟨t.next, id, k, b⟩ : Ent)]).find? _ = _
    rw [List.find?_append, List.find?_eq_none.2 (fun x hx => by have := may_lt h hx; simp; omega)]
    simp
  rw [fetchP, if_pos hu, if_neg (by omega), if_neg (by show ¬ t.next + 1 ≤ t.next; omega), if_neg (by show ¬ t.next < t.base; omega), e]
theorem fetch_add_old {t : Top} {id : Int} {k b : ByteArray} (h : t.may) (hu : (addT t id k b).may) {o : Int} (ho : o ≠ t.next) : fetchP (addT t id k b) o = fetchP t o := by
  have e : (addT t id k b).ents.find? (fun x => x.off == o) = t.ents.find? (fun x => x.off == o) := by
    show (t.ents ++ [(⟨t.next, id, k, b⟩ : Ent)]).find? _ = _
    rw [List.find?_append]
    have : ((⟨t.next, id, k, b⟩ : Ent).off == o) = false := by simp; omega
    simp [this]
  have e1 : (addT t id k b).next = t.next + 1 := rfl
  have e2 : (addT t id k b).base = t.base := rfl
  rw [fetchP, fetchP, if_pos hu, if_pos h, e, e1, e2]
  by_cases h1 : o < 0
  · rw [if_pos h1, if_pos h1]
  · rw [if_neg h1, if_neg h1]
    by_cases h2 : t.next ≤ o
    · rw [if_pos h2, if_pos (by omega)]
    · rw [if_neg h2, if_neg (by omega)]

/-- An answer of Add: refused, or done. -/
theorem add_cases {t u : Top} {id n e : Int} {k b : ByteArray} (h : addP t id k b = (u, n, e)) :
    (u = Top.zero ∧ n = 0 ∧ (e = 2 ∨ e = 3 ∨ e = 8 ∨ e = 9)) ∨ ((e = 0 ∧ n = t.next ∧ u = addT t id k b) ∧ (t.may ∧ u.may) ∧ (0 ≤ id ∧ id < 6291456 ∧ k.size ≤ 16 ∧ b.size ≤ 64) ∧ (t.next < 1073741824 ∧ t.ents.length < 200)) := by
  unfold addP at h
  by_cases hm : t.may
  · rw [if_pos hm] at h
    by_cases h1 : id < 0 ∨ 6291456 ≤ id
    · rw [if_pos h1] at h; cases h; exact Or.inl ⟨rfl, rfl, Or.inl rfl⟩
    · rw [if_neg h1] at h
      by_cases h2 : 16 < k.size ∨ 64 < b.size
      · rw [if_pos h2] at h; cases h; exact Or.inl ⟨rfl, rfl, Or.inr (Or.inl rfl)⟩
      · rw [if_neg h2] at h
        by_cases h3 : t.next = 1073741824 ∨ t.ents.length = 200
        · rw [if_pos h3] at h; cases h; exact Or.inl ⟨rfl, rfl, Or.inr (Or.inr (Or.inr rfl))⟩
        · rw [if_neg h3] at h
          cases h
          have a1 := hm.1.2.1
          have a2 := hm.1.2.2.2.2.2.2
          exact Or.inr ⟨⟨rfl, rfl, rfl⟩, ⟨hm, add_may hm (by omega) (by omega) (by omega)⟩, by omega, by omega, by omega⟩
  · rw [if_neg hm] at h; cases h; exact Or.inl ⟨rfl, rfl, Or.inr (Or.inr (Or.inl rfl))⟩
end Go.Proofs.Ytblgmjbajnkcdab
/-
  Plain law of what is kept: a topic of which something was let go may be, is fetched as it was from Base on; twice is once. No program in sight.
-/
namespace Go.Proofs.Ytblgmjbajnkcdab

theorem chk_mono {t t' : Top} (h1 : t'.mark = t.mark) (h2 : t'.next = t.next) : ∀ (l : List Ent) (last : Int) (seen seen' : List ByteArray), (∀ k, k ∈ seen' → k ∈ seen) → Top.chk t last seen l → Top.chk t' last seen' l
  | [], last, _, _, _, h => by
    have h' : max (last + 1) t.mark = t.next := h
    show max (last + 1) t'.mark = t'.next
    rw [h1, h2]; exact h'
  | x :: l, last, seen, seen', hs, ⟨⟨a1, a2, a3, a4, a5⟩, hr⟩ => by
    refine ⟨⟨a1, a2, by rw [h2]; exact a3, by rw [h1]; exact a4, fun hm hk => a5 (by rw [← h1]; exact hm) (hs _ hk)⟩, ?_⟩
    refine chk_mono h1 h2 l x.off _ _ ?_ hr
    rw [h1]
    intro k hk
    by_cases hm : x.off < t.mark
    · rw [if_pos hm] at hk ⊢
      rcases List.mem_cons.1 hk with rfl | hk
      · exact List.mem_cons_self
      · exact List.mem_cons_of_mem _ (hs _ hk)
    · rw [if_neg hm] at hk ⊢
      exact hs _ hk
theorem chk_above (t : Top) : ∀ (l : List Ent) (last : Int) (seen : List ByteArray), Top.chk t last seen l → ∀ y ∈ l, last < y.off
  | [], _, _, _, _, hy => by cases hy
  | x :: l, last, seen, ⟨⟨_, a2, _⟩, hr⟩, y, hy => by
    rcases List.mem_cons.1 hy with rfl | hy
    · exact a2
    · have := chk_above t l x.off _ hr y hy
      omega
theorem chk_from {t t' : Top} (h1 : t'.mark = t.mark) (h2 : t'.next = t.next) {b : Int} (hbn : b ≤ t.next) : ∀ (l : List Ent) (last : Int) (seen seen' : List ByteArray), last + 1 ≤ b → (∀ k, k ∈ seen' → k ∈ seen) → Top.chk t last seen l → Top.chk t' (b - 1) seen' (fromE b l)
  | [], last, _, _, hb, _, h => by
    have h' : max (last + 1) t.mark = t.next := h
    show max (b - 1 + 1) t'.mark = t'.next
    rw [h1, h2]; omega
  | x :: l, last, seen, seen', hb, hs, ⟨⟨a1, a2, a3, a4, a5⟩, hr⟩ => by
    by_cases hx : b ≤ x.off
    · have e : fromE b (x :: l) = x :: l := by
        have : fromE b l = l := fromE_all (fun y hy => by have := chk_above t l x.off _ hr y hy; omega)
        show List.filter _ _ = _
        rw [List.filter_cons_of_pos (by simpa using hx)]
        exact congrArg _ this
      rw [e]
      refine ⟨⟨a1, by omega, by rw [h2]; exact a3, by rw [h1]; omega, fun hm hk => a5 (by rw [← h1]; exact hm) (hs _ hk)⟩, ?_⟩
      refine chk_mono h1 h2 l x.off _ _ ?_ hr
      rw [h1]
      intro k hk
      by_cases hm : x.off < t.mark
      · rw [if_pos hm] at hk ⊢
        rcases List.mem_cons.1 hk with rfl | hk
        · exact List.mem_cons_self
        · exact List.mem_cons_of_mem _ (hs _ hk)
      · rw [if_neg hm] at hk ⊢
        exact hs _ hk
    · have e : fromE b (x :: l) = fromE b l := by
        show List.filter _ _ = _
        rw [List.filter_cons_of_neg (by simpa using hx)]
        rfl
      rw [e]
      refine chk_from h1 h2 hbn l x.off _ _ (by omega) ?_ hr
      intro k hk
      by_cases hm : x.off < t.mark
      · rw [if_pos hm]; exact List.mem_cons_of_mem _ (hs _ hk)
      · rw [if_neg hm]; exact hs _ hk

def trimT (t : Top) (to : Int) : Top := ⟨trimTo t to, t.next, t.mark, fromE (trimTo t to) t.ents⟩
theorem trim_may {t : Top} {to : Int} (h : t.may) (_ : 0 ≤ to) : (trimT t to).may := by
  have hh := h.1
  obtain ⟨a1, a2, a3, a4, a5, a6, a7⟩ := hh
  have hb : trimTo t to ≤ t.next := by unfold trimTo; omega
  have hb0 : t.base ≤ trimTo t to := by unfold trimTo; omega
  refine (Top.may_iff _).2 ⟨⟨a1, a2, by show 0 ≤ trimTo t to; omega, hb, a5, a6, Nat.le_trans (fromE_len _ _) a7⟩, ?_⟩
  exact chk_from (t := t) (t' := trimT t to) rfl rfl hb t.ents (t.base - 1) [] [] (by omega) (fun _ h => h) ((Top.may_iff t).1 h).2
theorem find_from {l : List Ent} {b o : Int} (h : b ≤ o) : (fromE b l).find? (fun x => x.off == o) = l.find? (fun x => x.off == o) := by
  show (List.filter _ l).find? _ = _
  rw [List.find?_filter]
  congr 1
  funext x
  by_cases e : x.off = o
  · simp [e, h]
  · simp [e]
theorem fetch_trim_low {t : Top} {to o : Int} (h : t.may) (h0 : 0 ≤ to) (h1 : 0 ≤ o) (h2 : o < trimTo t to) : fetchP (trimT t to) o = (default, 171) := by
  have hb : trimTo t to ≤ t.next := by have := h.1; unfold Top.head at this; unfold trimTo; omega
  rw [fetchP, if_pos (trim_may h h0), if_neg (by omega), if_neg (by show ¬ t.next ≤ o; omega), if_pos (by show o < trimTo t to; exact h2)]
theorem fetch_trim_high {t : Top} {to o : Int} (h : t.may) (h0 : 0 ≤ to) (h1 : ¬ (0 ≤ o ∧ o < trimTo t to)) : fetchP (trimT t to) o = fetchP t o := by
  have hb0 : t.base ≤ trimTo t to := by unfold trimTo; omega
  rw [fetchP, fetchP, if_pos (trim_may h h0), if_pos h]
  by_cases h2 : o < 0
  · rw [if_pos h2, if_pos h2]
  · rw [if_neg h2, if_neg h2]
    have e1 : (trimT t to).next = t.next := rfl
    have e2 : (trimT t to).base = trimTo t to := rfl
    have e3 : (trimT t to).ents = fromE (trimTo t to) t.ents := rfl
    rw [e1, e2, e3, if_neg (show ¬ o < trimTo t to by omega), if_neg (show ¬ o < t.base by omega), find_from (by omega)]

theorem trim_cases {t u : Top} {to e : Int} (h : trimP t to = (u, e)) : (u = Top.zero ∧ (e = 2 ∨ e = 8)) ∨ ((e = 0 ∧ u = trimT t to) ∧ (t.may ∧ u.may) ∧ 0 ≤ to ∧ to ≤ 1073741824) := by
  by_cases hm : t.may
  · by_cases ht : to < 0 ∨ 1073741824 < to
    · rw [trimP_arg hm ht] at h; cases h; exact Or.inl ⟨rfl, Or.inl rfl⟩
    · rw [trimP_yes hm ht] at h; cases h
      exact Or.inr ⟨⟨rfl, rfl⟩, ⟨hm, trim_may hm (by omega)⟩, by omega, by omega⟩
  · rw [trimP_bad hm] at h; cases h; exact Or.inl ⟨rfl, Or.inr rfl⟩
theorem from_from {b c : Int} (h : b ≤ c) (l : List Ent) : fromE c (fromE b l) = fromE c l := by
  show List.filter _ (List.filter _ l) = List.filter _ l
  rw [List.filter_filter]
  congr 1
  funext x
  by_cases e : c ≤ x.off
  · have : b ≤ x.off := by omega
    simp [e, this]
  · simp [e]
theorem trim_twice {t : Top} {m n : Int} (h : t.may) (hm : 0 ≤ m) (hn : 0 ≤ n) (_ : m ≤ 1073741824) (hn2 : n ≤ 1073741824) : trimP (trimT t m) n = (trimT t (max m n), 0) := by
  rw [trimP_yes (trim_may h hm) (by omega)]
  have e : trimTo (trimT t m) n = trimTo t (max m n) := by
    show max (trimTo t m) (min n t.next) = _
    unfold trimTo
    omega
  rw [e]
  have hle : trimTo t m ≤ trimTo t (max m n) := by unfold trimTo; omega
  show (Top.mk _ _ _ (fromE (trimTo t (max m n)) (fromE (trimTo t m) t.ents)), (0 : Int)) = _
  rw [from_from hle]
  rfl
end Go.Proofs.Ytblgmjbajnkcdab
/-
  topic.New; keys of a topic that may be. No condition.
-/
namespace Go.Proofs.Ytblgmjbajnkcdab
open Go.RowKit

def zeroTopV : Value := .agg #[.int .i64 0, .int .i64 0, .int .i64 0, .slice none 0 0]
theorem topR_zero (w : World) : TopR w (.agg #[.int .i64 0, .int .i64 0, .int .i64 0, .slice none 0 0]) Top.zero := ⟨none, 0, rfl, none, 0, rfl, Nat.le_refl _, Nat.zero_le _, fun _ => rfl, fun h => absurd h (Nat.lt_irrefl _)⟩
theorem keys_of_may {t : Top} (h : t.may) : ∀ x ∈ t.ents, x.key.size ≤ maxLen := by
  intro x hx
  obtain ⟨i, hi, rfl⟩ := List.getElem_of_mem hx
  have := (h.2.1 i hi).1.2.2.1
  rw [getD_at hi] at this
  exact Nat.le_trans this (by unfold maxLen; omega)

set_option maxRecDepth 100000 in
theorem new_any (w : World) : Calls Try.prog 68 #[] w fun e w' => e = .returned (.agg #[.int .i64 0, .int .i64 0, .int .i64 0, .slice none 0 0]) ∧ Below w.heap.size w w' := by
  go_enter Try.func68, Try.ntmps68
  go_wp2_with fail
  refine bodyPost_ret (v := .agg #[.int .i64 0, .int .i64 0, .int .i64 0, .slice none 0 0]) (by simp [results, Try.results68, go_sem]) rfl ⟨rfl, ?_⟩
  repeat (first | (with_reducible exact Below.refl _ _) | (with_reducible exact Below.refl _ _) | (with_reducible apply Below.drew) | (with_reducible apply below_alloc) | ((with_reducible refine Below.alloc ?_ ?_ _); rotate_left; focus (first | (simp; done) | (simp; omega) | omega)) | ((with_reducible refine Below.setCell ?_ ?_ _); rotate_left; focus (first | (simp; done) | (simp; omega) | omega)))
theorem zero_may : Top.zero.may := by decide +kernel

/-- A topic, new memory, and true. -/
def TopEndB (u : Top) (w : World) (e : Ending) (w' : World) : Prop :=
  ∃ a cap, e = .returned (.tuple #[.agg #[.int .i64 u.base, .int .i64 u.next, .int .i64 u.mark, .slice a u.ents.length cap], .bool true]) ∧
    OwnE w' w.heap.size (.slice a u.ents.length cap) u.ents ∧ Below w.heap.size w w'
end Go.Proofs.Ytblgmjbajnkcdab
