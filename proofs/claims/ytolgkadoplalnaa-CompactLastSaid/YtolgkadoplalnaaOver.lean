/-
  Rows that a law writes over; keep.Room in one word. No condition.
-/
import Derived.Test.YtolgkadoplalnaaRoom18
import Derived.Test.YtolgkadoplalnaaTrimP
import Derived.Test.YtolgkadoplalnaaSameT
namespace Go.Proofs.Ytolgkadoplalnaa
open Go.RowKit

theorem room_any {v : Value} {t : Top} {w : World} {x y : Int} (h : TopR w v t) (hk : ∀ x ∈ t.ents, x.key.size ≤ maxLen) (hu : roomP t = (x, y)) :
    Calls Try.prog 20 #[v] w fun e w' => e = .returned (.tuple #[.int .i64 x, .int .i64 y]) ∧ Below w.heap.size w w' := by
  by_cases hm : t.may
  · rw [roomP, if_pos hm] at hu
    cases hu
    exact room_yes h hk hm
  · rw [roomP, if_neg hm] at hu
    cases hu
    exact room_no h hk hm

theorem refSame_refl (u : Top) {v v' : Value} {w : World} (h : TopR w v u) (h' : TopR w v' u) :
    Calls Try.prog 22 #[v, v'] w fun e w' => e = .returned (.bool true) ∧ Below w.heap.size w w' := by
  have := refSameT_any h h'
  rwa [(sameT_iff u u).2 rfl] at this
theorem refSame_q {t t' : Top} {q : Bool} {v v' : Value} {w : World} (h : TopR w v t) (h' : TopR w v' t') (hq : q = sameT t t') :
    Calls Try.prog 22 #[v, v'] w fun e w' => e = .returned (.bool q) ∧ Below w.heap.size w w' := by
  rw [hq]; exact refSameT_any h h'
theorem topSame_q {t t' : Top} {q : Bool} {v v' : Value} {w : World} (h : TopR w v t) (h' : TopR w v' t') (hq : q = sameT t t') :
    Calls Try.prog 29 #[v, v'] w fun e w' => e = .returned (.bool q) ∧ Below w.heap.size w w' := by
  rw [hq]; exact topSame_any h h'
theorem topSame_refl (u : Top) {v v' : Value} {w : World} (h : TopR w v u) (h' : TopR w v' u) :
    Calls Try.prog 29 #[v, v'] w fun e w' => e = .returned (.bool true) ∧ Below w.heap.size w w' := by
  have := topSame_any h h'
  rwa [(sameT_iff u u).2 rfl] at this

theorem cells_top : Try.prog.cellsOf 24 = 4 := by kernel_rfl
theorem cells_ents : Try.prog.cellsOf 22 = 1 := by kernel_rfl
theorem cells_ent : Try.prog.cellsOf 38 = 4 := by kernel_rfl
theorem cells_int : Try.prog.cellsOf 3 = 1 := by kernel_rfl
theorem cells_str : Try.prog.cellsOf 9 = 1 := by kernel_rfl

/-- The slice v of n entries is the call's own, whatever it holds. -/
def Row4 (w : World) (B n : Nat) (v : Value) : Prop := ∃ xs, w.ownsRow B 38 4 v n xs
theorem Row4.of {w : World} {B : Nat} {v : Value} {l : List Ent} (h : OwnE w B v l) : Row4 w B l.length v := ⟨_, h⟩
theorem Row4.set_ {w : World} {B n b o : Nat} {v u : Value} (h : Row4 w B n v) (hb : b < B) : Row4 (w.setCell ⟨b, o, none⟩ u) B n v :=
  ⟨_, ownsRow_setCell_other h.choose_spec (fun e => by have := (h.choose_spec.lt _ e).1; simp at this; omega) u⟩
theorem Row4.at_ {w : World} {B n cap k : Nat} {a : Option Addr} (h : Row4 w B n (.slice a n cap)) (hk : k < n) :
    ∃ g u, a = some ⟨g, 0, none⟩ ∧ B ≤ g ∧ g < w.heap.size ∧ n ≤ cap ∧ cap ≤ maxLen ∧ w.cell? ⟨g, k * 4 + 3, none⟩ = some u ∧ w.frozen? ⟨g, k * 4 + 3, none⟩ = false ∧ ∀ x, Row4 (w.setCell ⟨g, k * 4 + 3, none⟩ x) B n (.slice a n cap) := by
  obtain ⟨xs, hx⟩ := h
  have hx' := hx
  obtain ⟨hl, h0 | ⟨g, cap', cur, hv, hB, hh, hle, hmx, _⟩⟩ := hx'
  · omega
  · cases hv
    have hlt : k * 4 + 3 < xs.length := by omega
    refine ⟨g, xs[k * 4 + 3], rfl, hB, (hx.lt g rfl).2, hle, hmx, ?_, hx.frozenAt _, fun x => ⟨_, (hx.stored _ x).1⟩⟩
    rw [hx.cellAt _ (by omega)]
    exact List.getElem?_eq_getElem hlt
end Go.Proofs.Ytolgkadoplalnaa
