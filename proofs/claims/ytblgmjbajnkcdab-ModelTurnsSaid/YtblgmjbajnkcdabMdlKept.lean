/-
  model.kept, model.entries: which entries are kept, where offsets are places.
-/
import Derived.Test.YtblgmjbajnkcdabMdlR
import Derived.Deep.LoopGhost
namespace Go.Proofs.Ytblgmjbajnkcdab
open Go.RowKit

theorem kept1_any (y : Ent) (xb : Nat) (key : ByteArray) (w : World) (hc : w.cell? ⟨xb, 2, none⟩ = some (.string key)) :
    Calls Try.prog 83 #[.agg #[.int .i64 y.off, .int .i64 y.id, .string y.key, .string y.body], .pointer (some ⟨xb, 0, none⟩)] w fun e w' => e = .returned (.bool (decide (y.key = key))) ∧ Below w.heap.size w w' := by
  have hlt : xb < w.heap.size := World.block_lt_of_cell? w _ hc
  obtain ⟨q, hq⟩ : ∃ q, q = decide (y.key = key) := ⟨_, rfl⟩
  have hq2 : (y.key.toList == key.toList) = q := by
    rw [hq]
    by_cases e : y.key = key
    · simp [e]
    · have h2 : y.key.toList ≠ key.toList := fun h => e (toList_eq h)
      simp [e, h2]
  rw [← hq]
  clear hq
  go_enter Try.func83, Try.ntmps83
  go_wp2_with fail
  go_ret
  exact ⟨by simp, (Below.refl _ _).alloc (Nat.le_refl _) _⟩

def hasK (key : ByteArray) (l : List Ent) : Bool := l.any fun y => decide (y.key = key)
def SomeK (key : ByteArray) (l : List Ent) (w : World) (e : Ending) (w' : World) : Prop := (∃ i : Int, e = .returned (.int .i64 i) ∧ (if hasK key l then 0 ≤ i else i = -1)) ∧ Below w.heap.size w w'

set_option maxHeartbeats 1000000 in
theorem idxKey_any {v : Value} {l : List Ent} {w : World} (h : SliceR w v 4 entCells l) (xb : Nat) (key : ByteArray) (hc : w.cell? ⟨xb, 2, none⟩ = some (.string key)) :
    Calls Try.prog 105 #[v, .func (.func 83) #[] #[.pointer (some ⟨xb, 0, none⟩)]] w (SomeK key l w) := by
  obtain ⟨a, cap, hv, _⟩ := id h
  subst hv
  obtain ⟨⟨_, hcap⟩, ⟨hmax, _⟩, hd⟩ := h.ents
  unfold maxLen at hmax
  have HT := Lib.hid hc
  have HD := Lib.hid hd
  obtain ⟨n, hn⟩ : ∃ n, n = l.length := ⟨_, rfl⟩
  rw [← hn] at HD hcap ⊢
  have HN := Lib.hid hn
  clear hn hd h hc
  have hn' : (n : Int) ≤ 9223372036854775807 := by omega
  go_enter Try.func105, Try.ntmps105
  go_wp2_with fail
  go_loopg [5, 8] n (fun g _ i wr => ∃ k : Nat, k ≤ n ∧ g = n - k ∧ i = .int .i64 (k : Int) ∧ Hid (∀ j, j < k → decide ((l.getD j default).key = key) = false) ∧ Hid (Below w.heap.size w wr))
  case atStart => exact ⟨0, Nat.zero_le _, rfl, rfl, (fun j hj => absurd hj (Nat.not_lt_zero _)), Below.refl _ _⟩
  case round =>
    obtain ⟨k, hk, rfl, rfl, hall, hb⟩ := hrel
    by_cases hlt : k < n
    · have hk0 : (0 : Int) ≤ (k : Int) := by omega
      have hk1 : (k : Int) < (n : Int) := by omega
      obtain ⟨bb, off, ha, h1⟩ := HD.out (by omega)
      subst ha
      have cc := h1 k (by rw [← HN.out]; exact hlt)
      clear h1
      obtain ⟨x, hx⟩ : ∃ x, x = l.getD k default := ⟨_, rfl⟩
      rw [← hx] at cc
      have HX := Lib.hid hx
      have c0 := keep hb.out cc.1.1.1
      have c1 := keep hb.out cc.1.1.2
      have c2 := keep hb.out cc.1.2
      have c3 := keep hb.out cc.2
      clear hx cc
      obtain ⟨q, hq⟩ : ∃ q, q = decide (x.key = key) := ⟨_, rfl⟩
      have L := kept1_any x xb key wr (keep hb.out HT.out)
      rw [← hq] at L
      have HL := Lib.hid L
      have HQ := Lib.hid hq
      clear L hq
      cases q
      all_goals
        go_wp2_with fail
        refine HL.out.mono ?_
        rintro e w1 ⟨rfl, hb1⟩
        have HB2 := Lib.hid (hb.out.trans (hb1.mono hb.out.size))
        clear hb hb1 c0 c1 c2 c3
        go_wp2_with fail
      · go_roundg (n - (k + 1))
        case measure => omega
        case rel =>
          refine ⟨k + 1, by omega, rfl, by go_num, fun j hj => ?_, HB2⟩
          by_cases hjk : j < k
          · exact hall.out j hjk
          · obtain rfl : j = k := by omega
            rw [← HX.out, ← HQ.out]
      · go_ret
        refine ⟨⟨k, rfl, ?_⟩, HB2.out⟩
        have : hasK key l = true := by
          rw [hasK, List.any_eq_true]
          have h1 := HN.out
          refine ⟨x, ?_, HQ.out.symm⟩
          rw [HX.out, show l.getD k default = l[k]'(by omega) by simp [List.getD, show k < l.length by omega]]
          exact List.getElem_mem _
        rw [if_pos this]
        omega
    · obtain rfl : k = n := by omega
      have hlt' : ¬ (k : Int) < (k : Int) := by omega
      go_wp2_with fail
      go_ret
      refine ⟨⟨-1, rfl, ?_⟩, hb.out⟩
      have : hasK key l = false := by
        rw [hasK, List.any_eq_false]
        intro y hy
        obtain ⟨j, hj, rfl⟩ := List.getElem_of_mem hy
        have h1 := hall.out j (by rw [HN.out]; exact hj)
        rw [getD_at hj] at h1
        simpa using h1
      rw [if_neg (by rw [this]; decide)]

theorem contKey_any {v : Value} {l : List Ent} {w : World} (h : SliceR w v 4 entCells l) (xb : Nat) (key : ByteArray) (hc : w.cell? ⟨xb, 2, none⟩ = some (.string key)) :
    Calls Try.prog 82 #[v, .func (.func 83) #[] #[.pointer (some ⟨xb, 0, none⟩)]] w fun e w' => e = .returned (.bool (hasK key l)) ∧ Below w.heap.size w w' := by
  have K := Lib.hid (idxKey_any h xb key hc)
  obtain ⟨q, hq⟩ : ∃ q, q = hasK key l := ⟨_, rfl⟩
  have HQ := Lib.hid hq
  rw [← hq]
  clear h hc hq
  go_enter Try.func82, Try.ntmps82
  go_wp2_with fail
  refine K.out.mono ?_
  rintro e w1 ⟨⟨i, rfl, hi⟩, hb⟩
  have HB := Lib.hid hb
  rw [← HQ.out] at hi
  clear hb
  cases q
  · rw [if_neg (by decide)] at hi
    subst hi
    go_wp2_with fail
    go_ret
    exact ⟨rfl, HB.out⟩
  · rw [if_pos rfl] at hi
    go_wp2_with fail
    go_ret
    refine ⟨?_, HB.out⟩
    first
      | rfl
      | (simp; omega)

/-! A part of a slice -/
theorem sliceR_part {w : World} {b off n cap : Nat} {l : List Ent} (h : SliceR w (.slice (some ⟨b, off, none⟩) n cap) 4 entCells l) {lo hi : Nat} (h1 : lo ≤ hi) (h2 : hi ≤ n) :
    SliceR w (.slice (some ⟨b, off + lo * 4, none⟩) (hi - lo) (cap - lo)) 4 entCells ((l.drop lo).take (hi - lo)) := by
  obtain ⟨a', cap', e, k2, k3, k4, k5⟩ := h
  cases e
  have hl : ((l.drop lo).take (hi - lo)).length = hi - lo := by rw [List.length_take, List.length_drop]; omega
  refine ⟨some ⟨b, off + lo * 4, none⟩, cap - lo, by rw [hl], by rw [hl]; omega, by omega, fun hn => by (cases hn), fun hp => ⟨b, off + lo * 4, rfl, fun i hi' j hj => ?_⟩⟩
  rw [hl] at hp hi'
  obtain ⟨b', off', ha, hd⟩ := k5 (by omega)
  cases ha
  have := hd (lo + i) (by omega) j hj
  rw [List.getElem_take, List.getElem_drop, ← this]
  congr 2
  omega
theorem hasK_nil (key : ByteArray) : hasK key [] = false := rfl
/-- The ones of a key below Mark, behind place i. -/
theorem hasK_part {p : Pl} (h : shapedP p) {i : Nat} (hi : (i : Int) < p.mark) (key : ByteArray) : hasK key ((p.all.drop (i + 1)).take (p.mark.toNat - (i + 1))) = hasL p.mark key (p.all.drop (i + 1)) := by
  obtain ⟨h1, h2, ⟨h3, h4⟩, h5, h6⟩ := h
  have e : hasL p.mark key (p.all.drop (i + 1)) = true ↔ hasK key ((p.all.drop (i + 1)).take (p.mark.toNat - (i + 1))) = true := by
    rw [hasL_iff, hasK, List.any_eq_true]
    constructor
    · rintro ⟨y, hy, hm, hk⟩
      obtain ⟨j, hj, rfl⟩ := List.getElem_of_mem hy
      rw [List.length_drop] at hj
      rw [List.getElem_drop] at hm hk
      have ho := (h1 (i + 1 + j) (by omega)).1
      rw [getD_at (by omega)] at ho
      refine ⟨p.all[i + 1 + j], ?_, by simpa using hk⟩
      rw [List.mem_take_iff_getElem]
      refine ⟨j, by rw [List.length_drop]; omega, ?_⟩
      rw [List.getElem_drop]
    · rintro ⟨y, hy, hk⟩
      obtain ⟨j, hj, rfl⟩ := List.mem_take_iff_getElem.1 hy
      rw [List.length_drop] at hj
      rw [List.getElem_drop] at hk
      have ho := (h1 (i + 1 + j) (by omega)).1
      rw [getD_at (by omega)] at ho
      refine ⟨p.all[i + 1 + j], ?_, by omega, by simpa using hk⟩
      rw [← List.getElem_drop (h := by rw [List.length_drop]; omega)]
      exact List.getElem_mem _
  exact (Bool.eq_iff_iff.2 e).symm

set_option maxHeartbeats 1000000 in
theorem kept_any {v : Value} {p : Pl} {w : World} (i : Nat) (h : PlR w v p) (hs : shapedP p) (hi : i < p.all.length) :
    Calls Try.prog 44 #[v, .agg #[.int .i64 (p.all.getD i default).off, .int .i64 (p.all.getD i default).id, .string (p.all.getD i default).key, .string (p.all.getD i default).body]] w fun e w' => e = .returned (.bool (keptI p i)) ∧ Below w.heap.size w w' := by
  have PP := Lib.hid h
  have HS := Lib.hid hs
  obtain ⟨a, cap, rfl, hsl⟩ := h
  obtain ⟨h1, h2, ⟨h3, h4⟩, h5, h6⟩ := id hs
  have hk := keptI_off (h1 i hi)
  have hoff := (h1 i hi).1
  obtain ⟨x, hx⟩ : ∃ x, x = p.all.getD i default := ⟨_, rfl⟩
  rw [← hx] at hoff hk ⊢
  obtain ⟨xo, xi, xk, xbd⟩ := x
  simp only at hoff hk ⊢
  subst hoff
  have HX := Lib.hid hx
  clear hs h1 hx
  by_cases c1 : (i : Int) < p.base
  · have e : keptI p i = false := by rw [hk]; simp; omega
    rw [e]
    clear hk e hsl
    go_enter Try.func44, Try.ntmps44
    go_wp2_with fail
    go_ret
    refine ⟨rfl, ?_⟩
    repeat (first | (with_reducible exact Below.refl _ _) | (with_reducible exact Below.refl _ _) | (with_reducible apply Below.drew) | (with_reducible apply below_alloc) | ((with_reducible refine Below.alloc ?_ ?_ _); rotate_left; focus (first | (simp; done) | (simp; omega) | omega)) | ((with_reducible refine Below.setCell ?_ ?_ _); rotate_left; focus (first | (simp; done) | (simp; omega) | omega)))
  · by_cases c2 : p.mark ≤ (i : Int)
    · have e : keptI p i = true := by rw [hk]; simp; omega
      rw [e]
      clear hk e hsl
      go_enter Try.func44, Try.ntmps44
      go_wp2_with fail
      go_ret
      refine ⟨rfl, ?_⟩
      repeat (first | (with_reducible exact Below.refl _ _) | (with_reducible exact Below.refl _ _) | (with_reducible apply Below.drew) | (with_reducible apply below_alloc) | ((with_reducible refine Below.alloc ?_ ?_ _); rotate_left; focus (first | (simp; done) | (simp; omega) | omega)) | ((with_reducible refine Below.setCell ?_ ?_ _); rotate_left; focus (first | (simp; done) | (simp; omega) | omega)))
    · have hp := hasK_part HS.out (show (i : Int) < p.mark by omega) xk
      obtain ⟨q, hq⟩ : ∃ q, q = hasL p.mark xk (p.all.drop (i + 1)) := ⟨_, rfl⟩
      rw [← hq] at hp hk
      have e : keptI p i = !q := by rw [hk, decide_eq_true (show p.base ≤ (i : Int) by omega), decide_eq_true (show (i : Int) < p.mark by omega)]; simp
      rw [e]
      obtain ⟨mk, hmk⟩ : ∃ mk : Nat, p.mark = (mk : Int) := ⟨p.mark.toNat, by omega⟩
      rw [hmk] at hp c2 h6
      rw [hmk]
      rw [Int.toNat_natCast] at hp
      obtain ⟨⟨_, hcap⟩, ⟨hmx, _⟩, hd⟩ := hsl.ents
      obtain ⟨b, off, ha, _⟩ := hd (by omega)
      subst ha
      have HP := Lib.hid hp
      have HSL := Lib.hid (sliceR_part hsl (lo := i + 1) (hi := mk) (by omega) (by omega))
      unfold maxLen at hmx
      have hw1 : IntKind.i64.wrap ((i : Int) + 1) = ((i + 1 : Nat) : Int) := by rw [IntWalk.i64_in _ (by omega)]; omega
      clear hsl hd hk hq e hp hmk PP
      by_cases hcc : cap = i + 1
      · obtain rfl : mk = i + 1 := by omega
        have e0 : (p.all.drop (i + 1)).take (i + 1 - (i + 1)) = [] := by rw [Nat.sub_self, List.take_zero]
        have hp0 := HP.out
        rw [e0] at hp0
        have HQ := Lib.hid hp0
        have HSL0 : Hid (SliceR w (.slice (some ⟨b, off, none⟩) 0 0) 4 entCells []) := Lib.hid ⟨some ⟨b, off, none⟩, 0, rfl, Nat.le_refl _, Nat.zero_le _, fun hn => by (cases hn), fun hp => absurd hp (Nat.lt_irrefl _)⟩
        subst hcc
        clear hp0 HSL HP e0
        go_enter Try.func44, Try.ntmps44
        go_wp2_with fail
        refine Calls.mono (contKey_any (l := []) ?_ _ xk ?_) ?_
        · first | exact HSL0.out.below entCells_len (by repeat (first | (with_reducible exact Below.refl _ _) | (with_reducible exact Below.refl _ _) | (with_reducible apply Below.drew) | (with_reducible apply below_alloc) | ((with_reducible refine Below.alloc ?_ ?_ _); rotate_left; focus (first | (simp; done) | (simp; omega) | omega)) | ((with_reducible refine Below.setCell ?_ ?_ _); rotate_left; focus (first | (simp; done) | (simp; omega) | omega)))) | (have h9 := HSL0.out.below entCells_len (show Below w.heap.size w _ by repeat (first | (with_reducible exact Below.refl _ _) | (with_reducible exact Below.refl _ _) | (with_reducible apply Below.drew) | (with_reducible apply below_alloc) | ((with_reducible refine Below.alloc ?_ ?_ _); rotate_left; focus (first | (simp; done) | (simp; omega) | omega)) | ((with_reducible refine Below.setCell ?_ ?_ _); rotate_left; focus (first | (simp; done) | (simp; omega) | omega)))); simpa using h9)
        · simp
        rintro e w1 ⟨rfl, hb⟩
        have HB : Hid (Below w.heap.size w _) := below_step (by repeat (first | (with_reducible exact Below.refl _ _) | (with_reducible exact Below.refl _ _) | (with_reducible apply Below.drew) | (with_reducible apply below_alloc) | ((with_reducible refine Below.alloc ?_ ?_ _); rotate_left; focus (first | (simp; done) | (simp; omega) | omega)) | ((with_reducible refine Below.setCell ?_ ?_ _); rotate_left; focus (first | (simp; done) | (simp; omega) | omega)))) hb
        rw [HQ.out]
        clear hb
        go_wp2_with fail
        go_ret
        exact ⟨rfl, HB.out⟩
      · go_enter Try.func44, Try.ntmps44
        go_wp2_with fail
        refine Calls.mono (contKey_any (l := (p.all.drop (i + 1)).take (mk - (i + 1))) ?_ _ xk ?_) ?_
        · exact HSL.out.below entCells_len (by repeat (first | (with_reducible exact Below.refl _ _) | (with_reducible exact Below.refl _ _) | (with_reducible apply Below.drew) | (with_reducible apply below_alloc) | ((with_reducible refine Below.alloc ?_ ?_ _); rotate_left; focus (first | (simp; done) | (simp; omega) | omega)) | ((with_reducible refine Below.setCell ?_ ?_ _); rotate_left; focus (first | (simp; done) | (simp; omega) | omega))))
        · simp
        rintro e w1 ⟨rfl, hb⟩
        have HB : Hid (Below w.heap.size w _) := below_step (by repeat (first | (with_reducible exact Below.refl _ _) | (with_reducible exact Below.refl _ _) | (with_reducible apply Below.drew) | (with_reducible apply below_alloc) | ((with_reducible refine Below.alloc ?_ ?_ _); rotate_left; focus (first | (simp; done) | (simp; omega) | omega)) | ((with_reducible refine Below.setCell ?_ ?_ _); rotate_left; focus (first | (simp; done) | (simp; omega) | omega)))) hb
        rw [HP.out]
        clear hb
        go_wp2_with fail
        go_ret
        exact ⟨rfl, HB.out⟩
end Go.Proofs.Ytblgmjbajnkcdab
