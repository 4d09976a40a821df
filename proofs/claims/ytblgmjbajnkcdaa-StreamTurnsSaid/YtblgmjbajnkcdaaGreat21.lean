/-
  ref21.Great: what a no says.
-/
import Derived.Test.YtblgmjbajnkcdaaStrTwin
import Derived.Test.YtblgmjbajnkcdaaBunF
import Derived.Test.YtblgmjbajnkcdaaBunK
namespace Go.Proofs.Ytblgmjbajnkcdaa
open Go.RowKit

def GreatEndS (s : Str) (w : World) (e : Ending) (w' : World) : Prop := (∃ g, e = .returned (.bool g) ∧ (g = false → (s.tops.length ≤ 50 ∧ ∀ t ∈ s.tops, t.ents.length ≤ 1000) ∧ few s.coms)) ∧ Below w.heap.size w w'
theorem few_of_great {s : Str} (h : (s.tops.length ≤ 50 ∧ ∀ t ∈ s.tops, t.ents.length ≤ 1000) ∧ few s.coms) : fewS s := ⟨by have := h.1.1; omega, fun t ht => by have := h.1.2 t ht; omega, h.2⟩

set_option maxHeartbeats 8000000 in
set_option maxRecDepth 100000 in
theorem strGreat_any {v : Value} {s : Str} {w : World} (h : StrR w v s) (hk : ∀ t ∈ s.tops, ∀ x ∈ t.ents, x.key.size ≤ 140737488355328 ∧ x.body.size ≤ 140737488355328) (hw : ∀ r ∈ s.coms, r.length ≤ 17592186044416) :
    Calls Try.prog 8 #[v] w (GreatEndS s w) := by
  have HK := Lib.hid hk
  have HW := Lib.hid hw
  obtain ⟨a, cap, b, nc, cc, rfl, hT, hR⟩ := h.shape
  obtain ⟨aa, ccap, hv, hcap, hmx, _, hd⟩ := hT.shape
  cases hv
  have HD := Lib.hid hd
  have RR := Lib.hid hR
  obtain ⟨n, hn⟩ : ∃ n, n = s.tops.length := ⟨_, rfl⟩
  rw [← hn] at HD hcap ⊢
  have HN := Lib.hid hn
  unfold maxLen at hmx
  have nn0 : (n : Int) ≤ 9223372036854775807 := by omega
  clear hk hw hT hR hd hn h hmx
  go_enter Try.func8, Try.ntmps8
  go_wp2_with fail
  go_loopg [3] (min n 50) (fun g i wr => ∃ (k : Nat), k ≤ n ∧ k ≤ 50 ∧ g = min n 50 - k ∧ i = .int .i64 (k : Int) ∧ Hid (∀ j, j < k → (s.tops.getD j default).ents.length ≤ 1000) ∧ Hid (Below w.heap.size w wr) ∧
    Hid (Blk wr w.heap.size 25 [.slice a n cap, .slice b nc cc]))
  case atStart =>
    refine ⟨0, Nat.zero_le _, Nat.zero_le _, rfl, rfl, fun j hj => absurd hj (Nat.not_lt_zero _), ?_, ?_⟩
    · show Below _ _ _
      exact (Below.refl _ _).alloc (Nat.le_refl _) _
    · show Blk _ _ _ _
      exact Blk.new rfl
  case round =>
    obtain ⟨k, hk, hk5, rfl, rfl, HA, HB, HP⟩ := hrel
    obtain ⟨p0, p1, pz⟩ := cells2 HP.out
    have pl := HP.out.lt
    by_cases hlt : k < n
    · have hk0 : (0 : Int) ≤ (k : Int) := by omega
      have hk1 : (k : Int) < (n : Int) := by omega
      by_cases h50 : k < 50
      · have hk2 : (k : Int) < 50 := by omega
        obtain ⟨g, off, ha, hat⟩ := HD.out (by omega)
        subst ha
        obtain ⟨ea, ecap, ⟨⟨⟨c0, c1⟩, c2⟩, c3⟩, hTT⟩ := (hat k hlt).keep HB.out
        have T := Lib.hid hTT
        have hg1 : g < wr.heap.size := World.block_lt_of_cell? wr _ c0
        obtain ⟨x, hx⟩ : ∃ x, x = s.tops.getD k default := ⟨_, rfl⟩
        rw [← hx] at c0 c1 c2 c3 T
        have hkl : k < s.tops.length := by rw [← HN.out]; exact hlt
        have HKX := Lib.hid (show ∀ y ∈ x.ents, y.key.size ≤ 140737488355328 ∧ y.body.size ≤ 140737488355328 by rw [hx, getD_lt hkl]; exact HK.out _ (List.getElem_mem hkl))
        have HX := Lib.hid hx
        clear hat hTT hx
        go_wp2_with fail
        refine Calls.mono (great17_any ?_ HKX.out) ?_
        · exact T.out.below (by repeat (first | (with_reducible exact Below.refl _ _) | (with_reducible exact Below.refl _ _) | (with_reducible apply Below.drew) | (with_reducible apply below_alloc) | ((with_reducible refine Below.alloc ?_ ?_ _); rotate_left; focus (first | (simp; done) | (simp; omega) | omega)) | ((with_reducible refine Below.setCell ?_ ?_ _); rotate_left; focus (first | (simp; done) | (simp; omega) | omega))))
        rintro e w4 ⟨⟨gr, rfl, hgr⟩, hb⟩
        have HG := Lib.hid hgr
        have HP4 := Lib.hid (Blk.step HP.out hb)
        have HB4 : Hid (Below w.heap.size w w4) := Below.step HB.out hb (by omega)
        clear hb hgr
        cases gr
        · go_wp2_with fail
          go_roundg (min n 50 - (k + 1))
          case measure => omega
          case rel =>
            refine ⟨k + 1, by omega, by omega, rfl, by go_num, ?_, HB4, HP4⟩
            show ∀ j, j < k + 1 → _
            intro j hj
            by_cases hjk : j < k
            · exact HA.out j hjk
            · obtain rfl : j = k := by omega
              rw [← HX.out]
              exact HG.out (by first | rfl | trivial)
        · go_wp2_with fail
          go_ret
          exact ⟨⟨true, rfl, fun h => by cases h⟩, HB4.out⟩
      · obtain rfl : k = 50 := by omega
        have hn5 : (50 : Int) < (n : Int) := by omega
        go_wp2_with fail
        go_ret
        exact ⟨⟨true, rfl, fun h => by cases h⟩, HB.out⟩
    · obtain rfl : k = n := by omega
      have hlt' : ¬ (k : Int) < (k : Int) := by omega
      have hn5 : ¬ (50 : Int) < (k : Int) := by omega
      go_wp2_with fail
      refine (great_any (RR.out.below HB.out) HW.out).mono ?_
      rintro e w4 ⟨⟨gr, rfl, hgr⟩, rfl⟩
      have HG := Lib.hid hgr
      clear hgr
      go_wp2_with fail
      go_ret
      refine ⟨⟨gr, rfl, fun h => ⟨⟨?_, fun t ht => ?_⟩, HG.out h⟩⟩, HB.out⟩
      · rw [← HN.out]; exact hk5
      · obtain ⟨j, hj, rfl⟩ := List.getElem_of_mem ht
        rw [← getD_lt hj]
        exact HA.out j (by rw [HN.out]; exact hj)
end Go.Proofs.Ytblgmjbajnkcdaa
