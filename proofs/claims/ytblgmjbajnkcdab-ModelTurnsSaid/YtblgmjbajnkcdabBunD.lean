/-
  Texts that belong together; the remark at the head of each says what it proves.
-/
import Derived.Test.YtblgmjbajnkcdabBunC
import Derived.Deep.LoopGhost
import Derived.Test.YtblgmjbajnkcdabBunB
import Derived.Test.YtblgmjbajnkcdabBunA
import Derived.Lib.MinMax
set_option maxRecDepth 100000
/-
  slices.IndexFunc at entries with keep.Trim's closure: the first entry from an offset on. No condition but that the slice reads.
-/
namespace Go.Proofs.Ytblgmjbajnkcdab
open Go.RowKit

theorem trim1 (x : Ent) (tb : Nat) (b : Int) (w : World) (hc : w.cell? ⟨tb, 0, none⟩ = some (.int .i64 b)) :
    Calls Try.prog 106 #[.agg #[.int .i64 x.off, .int .i64 x.id, .string x.key, .string x.body], .pointer (some ⟨tb, 0, none⟩)] w fun e w' => e = .returned (.bool (decide (b ≤ x.off))) ∧ Below w.heap.size w w' := by
  have hlt := World.block_lt_of_cell? w _ hc
  have hlt' : tb < w.heap.size := hlt
  go_enter Try.func106, Try.ntmps106
  go_wp2_with fail
  go_ret
  exact ⟨rfl, (Below.refl _ _).alloc (Nat.le_refl _) _⟩

/-- The first entry from b on: its place i. -/
def FirstAt (l : List Ent) (b i : Int) : Prop :=
  (i = -1 ∧ ∀ j, j < l.length → (l.getD j default).off < b) ∨ ∃ k : Nat, k < l.length ∧ i = (k : Int) ∧ (∀ j, j < k → (l.getD j default).off < b) ∧ b ≤ (l.getD k default).off
def IdxEnd (l : List Ent) (b : Int) (w : World) (e : Ending) (w' : World) : Prop := (∃ i : Int, e = .returned (.int .i64 i) ∧ FirstAt l b i) ∧ Below w.heap.size w w'

set_option maxHeartbeats 1000000 in
theorem idx18_any {v : Value} {l : List Ent} {w : World} (h : SliceR w v 4 entCells l) (tb : Nat) (b : Int) (hc : w.cell? ⟨tb, 0, none⟩ = some (.int .i64 b)) :
    Calls Try.prog 105 #[v, .func (.func 106) #[] #[.pointer (some ⟨tb, 0, none⟩)]] w (IdxEnd l b w) := by
  obtain ⟨a, cap, hv, _⟩ := id h
  subst hv
  obtain ⟨⟨_, hcap⟩, ⟨hmax, _⟩, hd⟩ := h.ents
  unfold maxLen at hmax
  have HT := Lib.hid hc
  have HD := Lib.hid hd
  obtain ⟨n, hn⟩ : ∃ n, n = l.length := ⟨_, rfl⟩
  rw [← hn] at HD hcap ⊢
  have HN := Lib.hid hn
  clear hn hd h hc
  have hn' : (n : Int) ≤ 9223372036854775807 := by omega
  go_enter Try.func105, Try.ntmps105
  go_wp2_with fail
  go_loopg [5, 8] n (fun g _ i wr => ∃ k : Nat, k ≤ n ∧ g = n - k ∧ i = .int .i64 (k : Int) ∧ Hid (∀ j, j < k → (l.getD j default).off < b) ∧ Hid (Below w.heap.size w wr))
  case atStart => exact ⟨0, Nat.zero_le _, rfl, rfl, (fun j hj => absurd hj (Nat.not_lt_zero _)), Below.refl _ _⟩
  case round =>
    obtain ⟨k, hk, rfl, rfl, hall, hb⟩ := hrel
    by_cases hlt : k < n
    · have hk0 : (0 : Int) ≤ (k : Int) := by omega
      have hk1 : (k : Int) < (n : Int) := by omega
      obtain ⟨bb, off, ha, h1⟩ := HD.out (by omega)
      subst ha
      have cc := h1 k (by rw [← HN.out]; exact hlt)
      clear h1
      obtain ⟨x, hx⟩ : ∃ x, x = l.getD k default := ⟨_, rfl⟩
      rw [← hx] at cc
      have HX := Lib.hid hx
      have c0 := keep hb.out cc.1.1.1
      have c1 := keep hb.out cc.1.1.2
      have c2 := keep hb.out cc.1.2
      have c3 := keep hb.out cc.2
      clear hx cc
      obtain ⟨q, hq⟩ : ∃ q, q = decide (b ≤ x.off) := ⟨_, rfl⟩
      have L := trim1 x tb b wr (keep hb.out HT.out)
      rw [← hq] at L
      have HL := Lib.hid L
      have HQ := Lib.hid hq
      clear L hq
      cases q
      all_goals
        go_wp2_with fail
        refine HL.out.mono ?_
        rintro e w1 ⟨rfl, hb1⟩
        have HB2 := Lib.hid (hb.out.trans (hb1.mono hb.out.size))
        clear hb hb1 c0 c1 c2 c3
        go_wp2_with fail
      · go_roundg (n - (k + 1))
        case measure => omega
        case rel =>
          refine ⟨k + 1, by omega, rfl, by go_num, fun j hj => ?_, HB2⟩
          by_cases hjk : j < k
          · exact hall.out j hjk
          · obtain rfl : j = k := by omega
            have := of_decide_eq_false HQ.out.symm
            rw [HX.out] at this
            omega
      · go_ret
        refine ⟨⟨k, rfl, Or.inr ⟨k, by rw [← HN.out]; exact hlt, rfl, hall.out, ?_⟩⟩, HB2.out⟩
        have := of_decide_eq_true HQ.out.symm
        rw [HX.out] at this
        exact this
    · obtain rfl : k = n := by omega
      have hlt' : ¬ (k : Int) < (k : Int) := by omega
      go_wp2_with fail
      go_ret
      exact ⟨⟨-1, rfl, Or.inl ⟨rfl, by rw [← HN.out]; exact hall.out⟩⟩, hb.out⟩
end Go.Proofs.Ytblgmjbajnkcdab
/-
  Plain: the entries from an offset on. No program in sight.
-/
namespace Go.Proofs.Ytblgmjbajnkcdab
open Go.RowKit

def fromE (b : Int) (l : List Ent) : List Ent := l.filter fun x => decide (b ≤ x.off)
theorem fromE_len (b : Int) (l : List Ent) : (fromE b l).length ≤ l.length := List.length_filter_le _ _
theorem take_succ_ent {l : List Ent} {k : Nat} (h : k < l.length) : l.take (k + 1) = l.take k ++ [l.getD k default] := by
  rw [List.take_succ_eq_append_getElem h]
  simp [List.getD, h]

end Go.Proofs.Ytblgmjbajnkcdab
/-
  Plain law of what is kept: of entries that rise, those from an offset on are those behind the first such one. No program in sight.
-/
namespace Go.Proofs.Ytblgmjbajnkcdab

def rises (l : List Ent) : Prop := ∀ i, i + 1 < l.length → (l.getD i default).off < (l.getD (i + 1) default).off
theorem rises_lt {l : List Ent} (h : rises l) {j : Nat} : ∀ {k : Nat}, j < k → k < l.length → (l.getD j default).off < (l.getD k default).off
  | 0, hj, _ => absurd hj (Nat.not_lt_zero _)
  | k + 1, hj, hk => by
    by_cases hjk : j = k
    · rw [hjk]; exact h k hk
    · have h1 := rises_lt h (j := j) (k := k) (by omega) (by omega)
      have h2 := h k hk
      omega
theorem may_rises {t : Top} (h : t.may) : rises t.ents := fun i hi => by
  have := (h.2.1 (i + 1) hi).2.2.2.1 (by omega)
  simpa using this

theorem fromE_append (b : Int) (l m : List Ent) : fromE b (l ++ m) = fromE b l ++ fromE b m := List.filter_append ..
theorem fromE_none {b : Int} {l : List Ent} (h : ∀ x ∈ l, x.off < b) : fromE b l = [] := by
  refine List.filter_eq_nil_iff.2 fun x hx => ?_
  have := h x hx
  simp; omega
theorem fromE_all {b : Int} {l : List Ent} (h : ∀ x ∈ l, b ≤ x.off) : fromE b l = l := List.filter_eq_self.2 fun x hx => by simpa using h x hx

theorem getD_at {l : List Ent} {j : Nat} (h : j < l.length) : l.getD j default = l[j] := by simp [List.getD, h]

theorem drop_from {l : List Ent} {b i : Int} (hr : rises l) (h : FirstAt l b i) : l.drop (if i < 0 then l.length else i.toNat) = fromE b l := by
  rcases h with ⟨rfl, hall⟩ | ⟨k, hk, rfl, hlo, hhi⟩
  · rw [if_pos (by omega), List.drop_length, fromE_none]
    intro x hx
    obtain ⟨j, hj, rfl⟩ := List.getElem_of_mem hx
    rw [← getD_at hj]; exact hall j hj
  · rw [if_neg (by omega), Int.toNat_natCast]
    conv => rhs; rw [← List.take_append_drop k l]
    rw [fromE_append, fromE_none, fromE_all, List.nil_append]
    · intro x hx
      obtain ⟨j, hj, rfl⟩ := List.getElem_of_mem hx
      rw [List.getElem_drop]
      have hj' : k + j < l.length := by simp at hj; omega
      rw [← getD_at hj']
      by_cases h0 : j = 0
      · subst h0; exact hhi
      · have := rises_lt hr (j := k) (k := k + j) (by omega) hj'
        omega
    · intro x hx
      obtain ⟨j, hj, rfl⟩ := List.getElem_of_mem hx
      rw [List.getElem_take]
      have hj' : j < k := by simp at hj; omega
      rw [← getD_at (by omega)]
      exact hlo j hj'
end Go.Proofs.Ytblgmjbajnkcdab
/-
  keep.Trim where nothing is let go. No condition but that the topic reads.
-/
namespace Go.Proofs.Ytblgmjbajnkcdab
open Go.RowKit

def noTop : Value := .agg #[.int .i64 0, .int .i64 0, .int .i64 0, .slice none 0 0]

set_option maxHeartbeats 1000000 in
set_option maxRecDepth 100000 in
theorem trim_bad {v : Value} {t : Top} {w : World} (to : Int) (h : TopR w v t) (hk : ∀ x ∈ t.ents, x.key.size ≤ maxLen) (hm : ¬ t.may) :
    Calls Try.prog 80 #[v, .int .i64 to] w fun e w' => e = .returned (.tuple #[noTop, .int .i64 8]) ∧ Below w.heap.size w w' := by
  have hb0 : ∀ o o' : Obj, Below w.heap.size w ((w.alloc o).alloc o') := fun o o' => ((Below.refl _ _).alloc (Nat.le_refl _) o).alloc (by simp) o'
  have K := fun (o o' : Obj) => check_no (h.below (hb0 o o')) hk hm
  have HK := Lib.hid K
  have HB := Lib.hid hb0
  obtain ⟨a, cap, rfl, _⟩ := h
  clear K hb0 hk hm
  go_enter Try.func80, Try.ntmps80
  go_wp2_with fail
  refine (HK.out _ _).mono ?_
  rintro e w2 ⟨rfl, hb⟩
  have HB2 := Lib.hid ((HB.out _ _).trans (hb.mono (by simp; omega)))
  have r0 := keep hb (a := ⟨w.heap.size + 1, 0, none⟩) (v := .int .i64 0) (by go_simp)
  have r1 := keep hb (a := ⟨w.heap.size + 1, 1, none⟩) (v := .int .i64 0) (by go_simp)
  have r2 := keep hb (a := ⟨w.heap.size + 1, 2, none⟩) (v := .int .i64 0) (by go_simp)
  have r3 := keep hb (a := ⟨w.heap.size + 1, 3, none⟩) (v := .slice none 0 0) (by go_simp)
  have q0 : w2.frozen? ⟨w.heap.size + 1, 0, none⟩ = false := by rw [hb.frozen (p := ⟨w.heap.size + 1, 0, none⟩) (by simp)]; go_simp
  have q1 : w2.frozen? ⟨w.heap.size + 1, 1, none⟩ = false := by rw [hb.frozen (p := ⟨w.heap.size + 1, 1, none⟩) (by simp)]; go_simp
  have q2 : w2.frozen? ⟨w.heap.size + 1, 2, none⟩ = false := by rw [hb.frozen (p := ⟨w.heap.size + 1, 2, none⟩) (by simp)]; go_simp
  have q3 : w2.frozen? ⟨w.heap.size + 1, 3, none⟩ = false := by rw [hb.frozen (p := ⟨w.heap.size + 1, 3, none⟩) (by simp)]; go_simp
  clear hb
  go_wp2_with fail
  refine bodyPost_ret (v := .tuple #[noTop, .int .i64 8]) (by simp [noTop, results, Try.results80, go_sem, r0, r1, r2, r3]) rfl ⟨rfl, ?_⟩
  exact (((HB2.out.setCell (p := ⟨w.heap.size + 1, 0, none⟩) (Nat.le_succ _) _).setCell (p := ⟨w.heap.size + 1, 1, none⟩) (Nat.le_succ _) _).setCell (p := ⟨w.heap.size + 1, 2, none⟩) (Nat.le_succ _) _).setCell (p := ⟨w.heap.size + 1, 3, none⟩) (Nat.le_succ _) _
set_option maxHeartbeats 1000000 in
set_option maxRecDepth 100000 in
theorem trim_arg {v : Value} {t : Top} {w : World} (to : Int) (h : TopR w v t) (hk : ∀ x ∈ t.ents, x.key.size ≤ maxLen) (hm : t.may) (hto : to < 0 ∨ 1073741824 < to) :
    Calls Try.prog 80 #[v, .int .i64 to] w fun e w' => e = .returned (.tuple #[noTop, .int .i64 2]) ∧ Below w.heap.size w w' := by
  have hb0 : ∀ o o' : Obj, Below w.heap.size w ((w.alloc o).alloc o') := fun o o' => ((Below.refl _ _).alloc (Nat.le_refl _) o).alloc (by simp) o'
  have K := fun (o o' : Obj) => check_yes (h.below (hb0 o o')) hk hm
  have HK := Lib.hid K
  have HB := Lib.hid hb0
  obtain ⟨a, cap, rfl, _⟩ := h
  clear K hb0 hk hm
  rcases hto with hto | hto
  all_goals
    go_enter Try.func80, Try.ntmps80
    go_wp2_with fail
    refine (HK.out _ _).mono ?_
    rintro e w2 ⟨rfl, hb⟩
    have HB2 := Lib.hid ((HB.out _ _).trans (hb.mono (by simp; omega)))
    have r0 := keep hb (a := ⟨w.heap.size + 1, 0, none⟩) (v := .int .i64 0) (by go_simp)
    have r1 := keep hb (a := ⟨w.heap.size + 1, 1, none⟩) (v := .int .i64 0) (by go_simp)
    have r2 := keep hb (a := ⟨w.heap.size + 1, 2, none⟩) (v := .int .i64 0) (by go_simp)
    have r3 := keep hb (a := ⟨w.heap.size + 1, 3, none⟩) (v := .slice none 0 0) (by go_simp)
    have q0 : w2.frozen? ⟨w.heap.size + 1, 0, none⟩ = false := by rw [hb.frozen (p := ⟨w.heap.size + 1, 0, none⟩) (by simp)]; go_simp
    have q1 : w2.frozen? ⟨w.heap.size + 1, 1, none⟩ = false := by rw [hb.frozen (p := ⟨w.heap.size + 1, 1, none⟩) (by simp)]; go_simp
    have q2 : w2.frozen? ⟨w.heap.size + 1, 2, none⟩ = false := by rw [hb.frozen (p := ⟨w.heap.size + 1, 2, none⟩) (by simp)]; go_simp
    have q3 : w2.frozen? ⟨w.heap.size + 1, 3, none⟩ = false := by rw [hb.frozen (p := ⟨w.heap.size + 1, 3, none⟩) (by simp)]; go_simp
    clear hb
    go_wp2_with fail
    refine bodyPost_ret (v := .tuple #[noTop, .int .i64 2]) (by simp [noTop, results, Try.results80, go_sem, r0, r1, r2, r3]) rfl ⟨rfl, ?_⟩
    exact (((HB2.out.setCell (p := ⟨w.heap.size + 1, 0, none⟩) (Nat.le_succ _) _).setCell (p := ⟨w.heap.size + 1, 1, none⟩) (Nat.le_succ _) _).setCell (p := ⟨w.heap.size + 1, 2, none⟩) (Nat.le_succ _) _).setCell (p := ⟨w.heap.size + 1, 3, none⟩) (Nat.le_succ _) _

end Go.Proofs.Ytblgmjbajnkcdab
/-
  Plain: what is let go, how much room there is; topics that a call returns. No program in sight.
-/
namespace Go.Proofs.Ytblgmjbajnkcdab
open Go.RowKit Go.WideShapes Go.ChangeShapes

def trimTo (t : Top) (to : Int) : Int := max t.base (min to t.next)
def trimP (t : Top) (to : Int) : Top × Int :=
  if t.may then (if to < 0 ∨ 1073741824 < to then (Top.zero, 2) else (⟨trimTo t to, t.next, t.mark, fromE (trimTo t to) t.ents⟩, 0)) else (Top.zero, 8)
theorem trimP_bad {t : Top} {to : Int} (h : ¬ t.may) : trimP t to = (Top.zero, 8) := by simp [trimP, h]
theorem trimP_arg {t : Top} {to : Int} (h : t.may) (h' : to < 0 ∨ 1073741824 < to) : trimP t to = (Top.zero, 2) := by simp [trimP, h, h']
theorem trimP_yes {t : Top} {to : Int} (h : t.may) (h' : ¬ (to < 0 ∨ 1073741824 < to)) : trimP t to = (⟨trimTo t to, t.next, t.mark, fromE (trimTo t to) t.ents⟩, 0) := by simp [trimP, h, h']
theorem trimP_len {t u : Top} {to x : Int} (h : trimP t to = (u, x)) : u.ents.length ≤ 200 := by
  by_cases hm : t.may
  · by_cases ht : to < 0 ∨ 1073741824 < to
    · rw [trimP_arg hm ht] at h
      cases h
      exact Nat.zero_le _
    · rw [trimP_yes hm ht] at h
      cases h
      exact Nat.le_trans (fromE_len _ _) hm.1.2.2.2.2.2.2
  · rw [trimP_bad hm] at h
    cases h
    exact Nat.zero_le _
def roomP (t : Top) : Int × Int := if t.may then (min (200 - (t.ents.length : Int)) (1073741824 - t.next), 0) else (0, 8)

/-- A topic, new memory, and a number. -/
def TopEnd1 (u : Top) (x : Int) (w : World) (e : Ending) (w' : World) : Prop :=
  ∃ a cap, e = .returned (.tuple #[.agg #[.int .i64 u.base, .int .i64 u.next, .int .i64 u.mark, .slice a u.ents.length cap], .int .i64 x]) ∧
    OwnE w' w.heap.size (.slice a u.ents.length cap) u.ents ∧ Below w.heap.size w w'
theorem topEnd1_zero {w w' : World} {e : Ending} (x : Int) (h : e = .returned (.tuple #[.agg #[.int .i64 0, .int .i64 0, .int .i64 0, .slice none 0 0], .int .i64 x])) (hb : Below w.heap.size w w') : TopEnd1 Top.zero x w e w' :=
  ⟨none, 0, h, World.ownsRow_nil _ _ _ _, hb⟩
theorem own_top {w : World} {B : Nat} {a : Option Addr} {cap : Nat} {u : Top} (h : OwnE w B (.slice a u.ents.length cap) u.ents) :
    TopR w (.agg #[.int .i64 u.base, .int .i64 u.next, .int .i64 u.mark, .slice a u.ents.length cap]) u := ⟨a, cap, rfl, h.reads⟩
theorem top_keys {t : Top} (h : topOk t) : ∀ x ∈ t.ents, x.key.size ≤ maxLen := fun x hx => Nat.le_trans (h.2 x hx).2.1 (by unfold reachBytes maxLen; omega)
theorem top_sizes {t : Top} (h : topOk t) : ∀ x ∈ t.ents, x.key.size ≤ 140737488355328 ∧ x.body.size ≤ 140737488355328 := fun x hx => ⟨Nat.le_trans (h.2 x hx).2.1 (by unfold reachBytes; omega), Nat.le_trans (h.2 x hx).2.2 (by unfold reachBytes; omega)⟩
end Go.Proofs.Ytblgmjbajnkcdab
/-
  keep.Trim where something may be let go. No condition but that the topic reads.
-/
namespace Go.Proofs.Ytblgmjbajnkcdab
open Go.RowKit

def TrimEnd (t : Top) (to : Int) (w : World) (e : Ending) (w' : World) : Prop :=
  ∃ a cap, e = .returned (.tuple #[.agg #[.int .i64 (trimTo t to), .int .i64 t.next, .int .i64 t.mark, .slice a (fromE (trimTo t to) t.ents).length cap], .int .i64 0]) ∧
    OwnE w' w.heap.size (.slice a (fromE (trimTo t to) t.ents).length cap) (fromE (trimTo t to) t.ents) ∧ Below w.heap.size w w'

set_option maxHeartbeats 2000000 in
set_option maxRecDepth 100000 in
theorem trim_yes {v : Value} {t : Top} {w : World} (to : Int) (h : TopR w v t) (hk : ∀ x ∈ t.ents, x.key.size ≤ maxLen) (hm : t.may) (h1 : 0 ≤ to) (h2 : to ≤ 1073741824) :
    Calls Try.prog 80 #[v, .int .i64 to] w (TrimEnd t to w) := by
  have hb0 : ∀ o o' : Obj, Below w.heap.size w ((w.alloc o).alloc o') := fun o o' => ((Below.refl _ _).alloc (Nat.le_refl _) o).alloc (by simp) o'
  have K := fun (o o' : Obj) => check_yes (h.below (hb0 o o')) hk hm
  have HK := Lib.hid K
  have HB := Lib.hid hb0
  have HT := Lib.hid h
  have HL := Lib.hid (show t.ents.length ≤ 1000000 by have := hm.1.2.2.2.2.2.2; omega)
  obtain ⟨a, cap, rfl, _⟩ := h
  have HRI := Lib.hid (may_rises hm)
  clear K hb0 hk hm
  go_enter Try.func80, Try.ntmps80
  go_wp2_with fail
  refine (HK.out _ _).mono ?_
  rintro e w2 ⟨rfl, hb⟩
  have s2 : w.heap.size + 2 ≤ w2.heap.size := by have := (hb).size; first | omega | (simp at this; omega)
  have HB2 : Hid (Below w.heap.size w _) := below_step (by repeat (first | (with_reducible exact Below.refl _ _) | (with_reducible exact Below.refl _ _) | (with_reducible apply Below.drew) | (with_reducible apply below_alloc) | ((with_reducible refine Below.alloc ?_ ?_ _); rotate_left; focus (first | (simp; done) | (simp; omega) | omega)) | ((with_reducible refine Below.setCell ?_ ?_ _); rotate_left; focus (first | (simp; done) | (simp; omega) | omega)))) hb
  have A2 : Blk _ (w.heap.size) _ _ := Blk.step (by repeat (first | ((with_reducible apply Blk.new); focus (first | rfl | (simp; done) | (simp; omega))) | (with_reducible apply Blk.drew) | (with_reducible apply Blk.alloc) | (with_reducible apply Blk.set_) | ((with_reducible apply Blk.far); rotate_left; focus (first | (simp; done) | (simp; omega) | omega)))) hb
  obtain ⟨a20, a21, a22, a23, a2z⟩ := cells4 A2
  have a2l := Blk.lt A2
  have HA2 := Lib.hid A2
  clear A2
  have R2 : Blk _ (w.heap.size + 1) _ _ := Blk.step (by repeat (first | ((with_reducible apply Blk.new); focus (first | rfl | (simp; done) | (simp; omega))) | (with_reducible apply Blk.drew) | (with_reducible apply Blk.alloc) | (with_reducible apply Blk.set_) | ((with_reducible apply Blk.far); rotate_left; focus (first | (simp; done) | (simp; omega) | omega)))) hb
  obtain ⟨r20, r21, r22, r23, r2z⟩ := cells4 R2
  have r2l := Blk.lt R2
  have HR2 := Lib.hid R2
  clear R2
  clear hb
  go_wp2_with fail
  refine (topTwin_any (HT.out.below HB2.out) HL.out).mono ?_
  rintro e w3 ⟨a3, cap3, rfl, o3, hb⟩
  have s3 : w2.heap.size ≤ w3.heap.size := by have := (hb).size; first | omega | (simp at this; omega)
  have HB3 : Hid (Below w.heap.size w _) := below_step (by repeat (first | (with_reducible exact HB2.out) | (with_reducible exact Below.refl _ _) | (with_reducible apply Below.drew) | (with_reducible apply below_alloc) | ((with_reducible refine Below.alloc ?_ ?_ _); rotate_left; focus (first | (simp; done) | (simp; omega) | omega)) | ((with_reducible refine Below.setCell ?_ ?_ _); rotate_left; focus (first | (simp; done) | (simp; omega) | omega)))) hb
  have A3 : Blk _ (w.heap.size) _ _ := Blk.step (by repeat (first | (with_reducible exact HA2.out) | ((with_reducible apply Blk.new); focus (first | rfl | (simp; done) | (simp; omega))) | (with_reducible apply Blk.drew) | (with_reducible apply Blk.alloc) | (with_reducible apply Blk.set_) | ((with_reducible apply Blk.far); rotate_left; focus (first | (simp; done) | (simp; omega) | omega)))) hb
  try simp only [List.set_cons_zero, List.set_cons_succ] at A3
  obtain ⟨a30, a31, a32, a33, a3z⟩ := cells4 A3
  have a3l := Blk.lt A3
  have HA3 := Lib.hid A3
  clear A3
  have R3 : Blk _ (w.heap.size + 1) _ _ := Blk.step (by repeat (first | (with_reducible exact HR2.out) | ((with_reducible apply Blk.new); focus (first | rfl | (simp; done) | (simp; omega))) | (with_reducible apply Blk.drew) | (with_reducible apply Blk.alloc) | (with_reducible apply Blk.set_) | ((with_reducible apply Blk.far); rotate_left; focus (first | (simp; done) | (simp; omega) | omega)))) hb
  try simp only [List.set_cons_zero, List.set_cons_succ] at R3
  obtain ⟨r30, r31, r32, r33, r3z⟩ := cells4 R3
  have r3l := Blk.lt R3
  have HR3 := Lib.hid R3
  clear R3
  have O3 := Lib.hid o3
  clear hb o3
  go_wp2_with fail
  refine at_world (C := fun W => Hid (OwnE W w2.heap.size (.slice a3 t.ents.length cap3) t.ents)) (by refine Lib.hid ?_; show OwnE _ w2.heap.size (.slice a3 t.ents.length cap3) t.ents; repeat (first | (with_reducible exact O3.out) | (with_reducible apply own_drew) | (with_reducible apply own_alloc) | ((with_reducible apply own_set); rotate_left; focus (first | (simp; done) | (simp; omega) | omega)))) (fun O4 => ?_)
  refine (idx18_any O4.out.reads w.heap.size (trimTo t to) (by go_simp; rfl)).mono ?_
  rintro e w5 ⟨⟨i, rfl, hi⟩, hb⟩
  have s5 : w3.heap.size ≤ w5.heap.size := by have := (hb).size; first | omega | (simp at this; omega)
  have HB5 : Hid (Below w.heap.size w _) := below_step (by repeat (first | (with_reducible exact HB3.out) | (with_reducible exact Below.refl _ _) | (with_reducible apply Below.drew) | (with_reducible apply below_alloc) | ((with_reducible refine Below.alloc ?_ ?_ _); rotate_left; focus (first | (simp; done) | (simp; omega) | omega)) | ((with_reducible refine Below.setCell ?_ ?_ _); rotate_left; focus (first | (simp; done) | (simp; omega) | omega)))) hb
  have A5 : Blk _ (w.heap.size) _ _ := Blk.step (by repeat (first | (with_reducible exact HA3.out) | ((with_reducible apply Blk.new); focus (first | rfl | (simp; done) | (simp; omega))) | (with_reducible apply Blk.drew) | (with_reducible apply Blk.alloc) | (with_reducible apply Blk.set_) | ((with_reducible apply Blk.far); rotate_left; focus (first | (simp; done) | (simp; omega) | omega)))) hb
  try simp only [List.set_cons_zero, List.set_cons_succ] at A5
  obtain ⟨a50, a51, a52, a53, a5z⟩ := cells4 A5
  have a5l := Blk.lt A5
  have HA5 := Lib.hid A5
  clear A5
  have R5 : Blk _ (w.heap.size + 1) _ _ := Blk.step (by repeat (first | (with_reducible exact HR3.out) | ((with_reducible apply Blk.new); focus (first | rfl | (simp; done) | (simp; omega))) | (with_reducible apply Blk.drew) | (with_reducible apply Blk.alloc) | (with_reducible apply Blk.set_) | ((with_reducible apply Blk.far); rotate_left; focus (first | (simp; done) | (simp; omega) | omega)))) hb
  try simp only [List.set_cons_zero, List.set_cons_succ] at R5
  obtain ⟨r50, r51, r52, r53, r5z⟩ := cells4 R5
  have r5l := Blk.lt R5
  have HR5 := Lib.hid R5
  clear R5
  have S5 := Lib.hid (O4.out.reads.below entCells_len hb)
  have HI := Lib.hid hi
  clear hb hi
  have cut : ∃ k : Nat, k ≤ t.ents.length ∧ t.ents.drop k = fromE (trimTo t to) t.ents ∧ ((i < 0 ∧ k = t.ents.length) ∨ (0 ≤ i ∧ i = (k : Int))) := by
    have h0 := drop_from HRI.out HI.out
    by_cases i0 : i < 0
    · rw [if_pos i0] at h0
      exact ⟨_, Nat.le_refl _, h0, Or.inl ⟨i0, rfl⟩⟩
    · rw [if_neg i0] at h0
      refine ⟨i.toNat, ?_, h0, Or.inr ⟨by omega, by omega⟩⟩
      rcases HI.out with ⟨h, _⟩ | ⟨k, hk, h, _⟩ <;> omega
  obtain ⟨k, hk, hd, hi⟩ := cut
  obtain ⟨A', hsl, S6⟩ := slice_from S5.out k hk
  rw [hd] at S6
  have HLF := Lib.hid (show (fromE (trimTo t to) t.ents).length ≤ 1000000 from Nat.le_trans (fromE_len _ _) HL.out)
  have HD := Lib.hid hd
  have H6 := Lib.hid S6
  have HKL := Lib.hid hk
  clear hd S6 hk
  rcases hi with ⟨i0, rfl⟩ | ⟨i0, rfl⟩
  all_goals
    go_wp2_with fail
    refine (clone_any (l := fromE (trimTo t to) t.ents) (by first | exact H6.out | (have h := H6.out; rw [Nat.sub_self] at h; exact h)) HLF.out).mono ?_
    rintro e w6 ⟨a6, cap6, rfl, o6, hb⟩
    have s6 : w5.heap.size ≤ w6.heap.size := by have := (hb).size; first | omega | (simp at this; omega)
    have HB6 : Hid (Below w.heap.size w _) := below_step (by repeat (first | (with_reducible exact HB5.out) | (with_reducible exact Below.refl _ _) | (with_reducible apply Below.drew) | (with_reducible apply below_alloc) | ((with_reducible refine Below.alloc ?_ ?_ _); rotate_left; focus (first | (simp; done) | (simp; omega) | omega)) | ((with_reducible refine Below.setCell ?_ ?_ _); rotate_left; focus (first | (simp; done) | (simp; omega) | omega)))) hb
    have A6 : Blk _ (w.heap.size) _ _ := Blk.step (by repeat (first | (with_reducible exact HA5.out) | ((with_reducible apply Blk.new); focus (first | rfl | (simp; done) | (simp; omega))) | (with_reducible apply Blk.drew) | (with_reducible apply Blk.alloc) | (with_reducible apply Blk.set_) | ((with_reducible apply Blk.far); rotate_left; focus (first | (simp; done) | (simp; omega) | omega)))) hb
    try simp only [List.set_cons_zero, List.set_cons_succ] at A6
    obtain ⟨a60, a61, a62, a63, a6z⟩ := cells4 A6
    have a6l := Blk.lt A6
    have HA6 := Lib.hid A6
    clear A6
    have R6 : Blk _ (w.heap.size + 1) _ _ := Blk.step (by repeat (first | (with_reducible exact HR5.out) | ((with_reducible apply Blk.new); focus (first | rfl | (simp; done) | (simp; omega))) | (with_reducible apply Blk.drew) | (with_reducible apply Blk.alloc) | (with_reducible apply Blk.set_) | ((with_reducible apply Blk.far); rotate_left; focus (first | (simp; done) | (simp; omega) | omega)))) hb
    try simp only [List.set_cons_zero, List.set_cons_succ] at R6
    obtain ⟨r60, r61, r62, r63, r6z⟩ := cells4 R6
    have r6l := Blk.lt R6
    have HR6 := Lib.hid R6
    clear R6
    have O6 := Lib.hid o6
    clear o6 hb
    go_wp2_with fail
    refine bodyPost_ret (v := .tuple #[.agg #[.int .i64 (trimTo t to), .int .i64 t.next, .int .i64 t.mark, .slice a6 (fromE (trimTo t to) t.ents).length cap6], .int .i64 0]) (by simp [results, Try.results80, go_sem, r60, r61, r62, r63, trimTo]) rfl ⟨a6, cap6, rfl, ?_, ?_⟩
    · refine own_base (B := w5.heap.size) ?_ (by omega)
      repeat (first | (with_reducible exact O6.out) | (with_reducible apply own_drew) | (with_reducible apply own_alloc) | ((with_reducible apply own_set); rotate_left; focus (first | (simp; done) | (simp; omega) | omega)))
    · repeat (first | (with_reducible exact HB6.out) | (with_reducible exact Below.refl _ _) | (with_reducible apply Below.drew) | (with_reducible apply below_alloc) | ((with_reducible refine Below.alloc ?_ ?_ _); rotate_left; focus (first | (simp; done) | (simp; omega) | omega)) | ((with_reducible refine Below.setCell ?_ ?_ _); rotate_left; focus (first | (simp; done) | (simp; omega) | omega)))

theorem trim_any {v : Value} {t u : Top} {w : World} {x : Int} (to : Int) (h : TopR w v t) (hk : ∀ x ∈ t.ents, x.key.size ≤ maxLen) (hu : trimP t to = (u, x)) :
    Calls Try.prog 80 #[v, .int .i64 to] w (TopEnd1 u x w) := by
  by_cases hm : t.may
  · by_cases ht : to < 0 ∨ 1073741824 < to
    · rw [trimP_arg hm ht] at hu
      cases hu
      exact (trim_arg to h hk hm ht).mono fun _ _ ⟨h1, h2⟩ => topEnd1_zero 2 h1 h2
    · rw [trimP_yes hm ht] at hu
      cases hu
      exact trim_yes to h hk hm (by omega) (by omega)
  · rw [trimP_bad hm] at hu
    cases hu
    exact (trim_bad to h hk hm).mono fun _ _ ⟨h1, h2⟩ => topEnd1_zero 8 h1 h2
end Go.Proofs.Ytblgmjbajnkcdab
/-
  Rows that a law writes over; two topics held against each other in one word. No condition.
-/
namespace Go.Proofs.Ytblgmjbajnkcdab
open Go.RowKit

theorem refSame_refl (u : Top) {v v' : Value} {w : World} (h : TopR w v u) (h' : TopR w v' u) :
    Calls Try.prog 56 #[v, v'] w fun e w' => e = .returned (.bool true) ∧ Below w.heap.size w w' := by
  have := refSameT_any h h'
  rwa [(sameT_iff u u).2 rfl] at this
theorem refSame_q {t t' : Top} {q : Bool} {v v' : Value} {w : World} (h : TopR w v t) (h' : TopR w v' t') (hq : q = sameT t t') :
    Calls Try.prog 56 #[v, v'] w fun e w' => e = .returned (.bool q) ∧ Below w.heap.size w w' := by
  rw [hq]; exact refSameT_any h h'
theorem topSame_q {t t' : Top} {q : Bool} {v v' : Value} {w : World} (h : TopR w v t) (h' : TopR w v' t') (hq : q = sameT t t') :
    Calls Try.prog 65 #[v, v'] w fun e w' => e = .returned (.bool q) ∧ Below w.heap.size w w' := by
  rw [hq]; exact topSame_any h h'
theorem topSame_refl (u : Top) {v v' : Value} {w : World} (h : TopR w v u) (h' : TopR w v' u) :
    Calls Try.prog 65 #[v, v'] w fun e w' => e = .returned (.bool true) ∧ Below w.heap.size w w' := by
  have := topSame_any h h'
  rwa [(sameT_iff u u).2 rfl] at this

theorem cells_top : Try.prog.cellsOf 70 = 4 := by kernel_rfl
theorem cells_ents : Try.prog.cellsOf 68 = 1 := by kernel_rfl
theorem cells_ent : Try.prog.cellsOf 29 = 4 := by kernel_rfl
theorem cells_int : Try.prog.cellsOf 3 = 1 := by kernel_rfl
theorem cells_str : Try.prog.cellsOf 9 = 1 := by kernel_rfl

/-- The slice v of n entries is the call's own, whatever it holds. -/
def Row4 (w : World) (B n : Nat) (v : Value) : Prop := ∃ xs, w.ownsRow B 29 4 v n xs
theorem Row4.of {w : World} {B : Nat} {v : Value} {l : List Ent} (h : OwnE w B v l) : Row4 w B l.length v := ⟨_, h⟩
theorem Row4.set_ {w : World} {B n b o : Nat} {v u : Value} (h : Row4 w B n v) (hb : b < B) : Row4 (w.setCell ⟨b, o, none⟩ u) B n v :=
  ⟨_, ownsRow_setCell_other h.choose_spec (fun e => by have := (h.choose_spec.lt _ e).1; simp at this; omega) u⟩
theorem Row4.at_ {w : World} {B n cap k : Nat} {a : Option Addr} (h : Row4 w B n (.slice a n cap)) (hk : k < n) :
    ∃ g u, a = some ⟨g, 0, none⟩ ∧ B ≤ g ∧ g < w.heap.size ∧ n ≤ cap ∧ cap ≤ maxLen ∧ w.cell? ⟨g, k * 4 + 3, none⟩ = some u ∧ w.frozen? ⟨g, k * 4 + 3, none⟩ = false ∧ ∀ x, Row4 (w.setCell ⟨g, k * 4 + 3, none⟩ x) B n (.slice a n cap) := by
  obtain ⟨xs, hx⟩ := h
  have hx' := hx
  obtain ⟨hl, h0 | ⟨g, cap', cur, hv, hB, hh, hle, hmx, _⟩⟩ := hx'
  · omega
  · cases hv
    have hlt : k * 4 + 3 < xs.length := by omega
    refine ⟨g, xs[k * 4 + 3], rfl, hB, (hx.lt g rfl).2, hle, hmx, ?_, hx.frozenAt _, fun x => ⟨_, (hx.stored _ x).1⟩⟩
    rw [hx.cellAt _ (by omega)]
    exact List.getElem?_eq_getElem hlt
end Go.Proofs.Ytblgmjbajnkcdab
