/-
  Own rows of entries over stores, and a slice of them from a place on. No condition.
-/
import Derived.Test.YtolgkadoplalnaaBox
import Derived.Test.YtolgkadoplalnaaTwin17
import Derived.Test.YtolgkadoplalnaaDrop18
namespace Go.Proofs.Ytolgkadoplalnaa
open Go.RowKit

theorem own_set {W : World} {B b o : Nat} {v u : Value} {l : List Ent} (h : OwnE W B v l) (hb : b < B) : OwnE (W.setCell ⟨b, o, none⟩ u) B v l :=
  ownsRow_setCell_other h (fun e => by have := (h.lt _ e).1; simp at this; omega) u
theorem own_alloc {W : World} {B : Nat} {v : Value} {l : List Ent} (h : OwnE W B v l) {o : Obj} : OwnE (W.alloc o) B v l := h.alloc _
theorem own_drew {W : World} {B : Nat} {v : Value} {l : List Ent} (h : OwnE W B v l) : OwnE W.drew B v l := h
theorem own_base {W : World} {B B' : Nat} {v : Value} {l : List Ent} (h : OwnE W B v l) (hB : B' ≤ B) : OwnE W B' v l :=
  ⟨h.1, h.2.elim Or.inl (fun ⟨g, cp, cur, hv, hg, r⟩ => Or.inr ⟨g, cp, cur, hv, by omega, r⟩)⟩
theorem own_below {W W' : World} {B : Nat} {v : Value} {l : List Ent} (h : OwnE W B v l) (hb : Below W.heap.size W W') : OwnE W' B v l :=
  ⟨h.1, h.2.elim Or.inl (fun ⟨g, cp, cur, hv, hg, hh, r⟩ => Or.inr ⟨g, cp, cur, hv, hg, (hb.block g (h.lt g (by rw [hv]; rfl)).2).trans hh, r⟩)⟩

theorem slice_from {a : Option Addr} {n cap : Nat} {l : List Ent} {w : World} (h : SliceR w (.slice a n cap) 4 entCells l) (k : Nat) (hk : k ≤ n) :
    ∃ A', (∀ W, (Instr.slice 22 (.slice a n cap) (some (.int .i64 (k : Int))) none none).run Try.prog W = .ok (.slice A' (n - k) (cap - k)) W) ∧ SliceR w (.slice A' (n - k) (cap - k)) 4 entCells (l.drop k) := by
  refine ⟨_, fun W => ?_, sliceR_drop h hk⟩
  have k0 : (0 : Int) ≤ (k : Int) := by omega
  have k1 : (k : Int) ≤ (n : Int) := by omega
  go_simp
end Go.Proofs.Ytolgkadoplalnaa
