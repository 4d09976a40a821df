/-
  Plain: what the statement on runs counts: each topic's end, each consumer's place. No program in sight.
-/
import Derived.Test.YtblgmjbajnkcdaaStrLaw
import Derived.Test.YtblgmjbajnkcdaaBunJ
import Derived.Test.YtblgmjbajnkcdaaStrNew
namespace Go.Proofs.Ytblgmjbajnkcdaa
open Go.RowKit

def intV (x : Int) : Value := .int .i64 x
def endsC (s : Str) : List Value := [.int .i64 (topN s 0).next, .int .i64 (topN s 1).next, .int .i64 (topN s 2).next, .int .i64 (topN s 3).next]
theorem endsC_at {s : Str} {t : Int} (h0 : 0 ≤ t) (h1 : t < 4) : (endsC s)[t.toNat]? = some (.int .i64 (topN s t).next) := by
  have : t = 0 ∨ t = 1 ∨ t = 2 ∨ t = 3 := by omega
  rcases this with rfl | rfl | rfl | rfl <;> rfl
theorem endsC_eq {s u : Str} (h : ∀ o, 0 ≤ o → (topN u o).next = (topN s o).next) : endsC u = endsC s := by
  simp [endsC, h]
theorem endsC_set {s u : Str} {t n : Int} (h0 : 0 ≤ t) (h1 : t < 4) (h : ∀ o, 0 ≤ o → o ≠ t → (topN u o).next = (topN s o).next) (hn : (topN u t).next = n) : (endsC s).set t.toNat (.int .i64 n) = endsC u := by
  subst hn
  have : t = 0 ∨ t = 1 ∨ t = 2 ∨ t = 3 := by omega
  rcases this with rfl | rfl | rfl | rfl <;> simp [endsC, h]

/-- The far ones so far: the first d are up to date, none is beyond. -/
def FarP (d : Nat) (l : List Int) (m : List (List Int)) : Prop := l.length = 32 ∧ ∀ j, j < 32 → (j < d → l.getD j 0 = getC m ((j / 8 : Nat) : Int) ((j % 8 : Nat) : Int)) ∧ l.getD j 0 ≤ getC m ((j / 8 : Nat) : Int) ((j % 8 : Nat) : Int)
theorem FarP.mono {l : List Int} {m m' : List (List Int)} {d : Nat} (h : FarP d l m) (hm : ∀ t k, 0 ≤ t → t < 4 → 0 ≤ k → getC m t k ≤ getC m' t k) : FarP 0 l m' := by
  refine ⟨h.1, fun j hj => ⟨fun h0 => absurd h0 (Nat.not_lt_zero _), Int.le_trans (h.2 j hj).2 (hm _ _ (by omega) (by omega) (by omega))⟩⟩
theorem FarP.next {l : List Int} {m : List (List Int)} {q r : Nat} (h : FarP (8 * q + r) l m) (hr : r < 8) : FarP (8 * q + r + 1) (l.set (8 * q + r) (getC m (q : Int) (r : Int))) m := by
  refine ⟨by simpa using h.1, fun j hj => ?_⟩
  have e1 : (8 * q + r) / 8 = q := by omega
  have e2 : (8 * q + r) % 8 = r := by omega
  by_cases hjj : 8 * q + r = j
  · subst hjj
    rw [getD_set_same (by rw [h.1]; exact hj), e1, e2]
    exact ⟨fun _ => rfl, Int.le_refl _⟩
  · rw [getD_set_other hjj]
    exact ⟨fun h1 => (h.2 j hj).1 (by omega), (h.2 j hj).2⟩
theorem FarP.at_ {l : List Int} {m : List (List Int)} {q r d : Nat} (h : FarP d l m) (hq : q < 4) (hr : r < 8) : l.getD (8 * q + r) 0 ≤ getC m (q : Int) (r : Int) := by
  have h1 := (h.2 (8 * q + r) (by omega)).2
  rwa [show (8 * q + r) / 8 = q by omega, show (8 * q + r) % 8 = r by omega] at h1
theorem FarP.new : FarP 32 (List.replicate 32 0) newS.coms := by
  refine ⟨by simp, fun j hj => ?_⟩
  have hz : ∀ t, t < 4 → ∀ k, k < 8 → getC newS.coms ((t : Nat) : Int) ((k : Nat) : Int) = 0 := by decide +kernel
  rw [hz _ (by omega) _ (by omega)]
  have e1 : ∀ j, j < 32 → (List.replicate 32 (0 : Int)).getD j 0 = 0 := by decide +kernel
  have e0 := e1 j hj
  rw [e0]
  exact ⟨fun _ => rfl, Int.le_refl _⟩
theorem cell_far {w : World} {g : Nat} {t : TypeId} {l : List Int} (h : Blk w g t (l.map intV)) {j : Nat} (hj : j < l.length) : w.cell? ⟨g, j, none⟩ = some (.int .i64 (l.getD j 0)) := by
  rw [h.cell j, List.getElem?_map, List.getElem?_eq_getElem hj, getD_lt hj]
  rfl
theorem blk_far {w : World} {g : Nat} {t : TypeId} {l : List Int} (h : Blk w g t (l.map intV)) (j : Nat) (x : Int) : Blk (w.setCell ⟨g, j, none⟩ (.int .i64 x)) g t ((l.set j x).map intV) := by
  have := h.set_ j (.int .i64 x)
  rwa [show (l.map intV).set j (.int .i64 x) = (l.set j x).map intV by rw [List.map_set]; rfl] at this
/-- Behind the commands: a consumer's place is not beyond the end. -/
theorem far_le {s : Str} (h : mayS s) {t k : Nat} (ht : t < 4) (hk : k < 8) : getC s.coms (t : Int) (k : Int) ≤ (topN s (t : Int)).next := by
  have := h.2.2 t ht k hk
  exact this
theorem next_le {s : Str} (h : mayS s) {t : Int} (h0 : 0 ≤ t) (h1 : t < 4) : 0 ≤ (topN s t).next ∧ (topN s t).next ≤ 1073741824 := by
  have := (h.1.2 _ (topN_mem h h0 h1)).1
  unfold Top.head at this
  omega
theorem endS_yes {s : Str} (h : mayS s) {t : Int} (h0 : 0 ≤ t) (h1 : t < 4) : endS s t = ((topN s t).next, 0) := by rw [endS, if_pos (askS_zero.2 ⟨h, h0, h1⟩)]
theorem farS_yes {s : Str} (h : mayS s) {t k : Int} (h0 : 0 ≤ t) (h1 : t < 4) (h2 : 0 ≤ k) (h3 : k < 8) : farS s t k = (getC s.coms t k, 0) := by
  rw [farS, if_pos h, askC_yes h.2.1 h0 h1 h2 h3, if_pos rfl]
end Go.Proofs.Ytblgmjbajnkcdaa
