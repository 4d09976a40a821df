/-
  Plain: what is read of a group's topics. No program in sight.
-/
import Derived.Test.YtblgmjbajnkcdaaStrChk
import Derived.Test.YtblgmjbajnkcdaaBunE
import Derived.Test.YtblgmjbajnkcdaaBunJ
namespace Go.Proofs.Ytblgmjbajnkcdaa
open Go.RowKit

def askS (s : Str) (n : Int) : Int := if mayS s then (if 0 ≤ n ∧ n < 4 then 0 else 2) else 8
def topN (s : Str) (n : Int) : Top := s.tops.getD n.toNat default
def fetchS (s : Str) (n o : Int) : Ent × Int := if askS s n = 0 then fetchP (topN s n) o else (default, askS s n)
def farS (s : Str) (n k : Int) : Int × Int := if mayS s then (if askC s.coms n k = 0 then getC s.coms n k else 0, askC s.coms n k) else (0, 8)
def endS (s : Str) (n : Int) : Int × Int := if askS s n = 0 then ((topN s n).next, 0) else (0, askS s n)
theorem askS_zero {s : Str} {n : Int} : askS s n = 0 ↔ mayS s ∧ 0 ≤ n ∧ n < 4 := by
  unfold askS
  by_cases h : mayS s
  · by_cases h2 : 0 ≤ n ∧ n < 4
    · simp [h, h2]
    · rw [if_pos h, if_neg h2]; simp [h]; omega
  · rw [if_neg h]; simp [h]
theorem topN_mem {s : Str} {n : Int} (h : mayS s) (h0 : 0 ≤ n) (h1 : n < 4) : topN s n ∈ s.tops := by
  have := h.1.1
  rw [topN, getD_lt (show n.toNat < s.tops.length by omega)]
  exact List.getElem_mem _
theorem keysS_of_may {s : Str} (h : mayS s) : strKeys s := fun t ht x hx => by
  have hm := h.1.2 t ht
  obtain ⟨i, hi, rfl⟩ := List.getElem_of_mem hx
  have := (hm.2.1 i hi).1.2.2.1
  rw [getD_at hi] at this
  exact Nat.le_trans this (by unfold maxLen; omega)
/-- A topic of a stream that reads. -/
theorem StrR.top {w : World} {a : Option Addr} {n cap : Nat} {l : List Top} (h : TopsR w (.slice a n cap) l) {i : Int} (h0 : 0 ≤ i) (h1 : i < (l.length : Int)) :
    (n = l.length ∧ n ≤ cap ∧ cap ≤ maxLen) ∧ ∃ b off, a = some ⟨b, off, none⟩ ∧ TopAt w b (off + i.toNat * 4) (l.getD i.toNat default) := by
  obtain ⟨a', cap', hv, h2, h3, _, hd⟩ := h.shape
  cases hv
  obtain ⟨b, off, rfl, hd2⟩ := hd (by omega)
  exact ⟨⟨rfl, h2, h3⟩, b, off, rfl, hd2 _ (by omega)⟩
end Go.Proofs.Ytblgmjbajnkcdaa
