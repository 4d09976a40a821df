/-
  keep.Room. No condition but that the topic reads.
-/
import Derived.Test.YtolgkadoplalnaaCheck17
namespace Go.Proofs.Ytolgkadoplalnaa
open Go.RowKit

def roomOf (t : Top) : Int := min (200 - (t.ents.length : Int)) (1073741824 - t.next)

theorem check_yes {v : Value} {t : Top} {w : World} (h : TopR w v t) (hk : ∀ x ∈ t.ents, x.key.size ≤ maxLen) (hm : t.may) :
    Calls Try.prog 34 #[v] w fun e w' => e = .returned (.int .i64 0) ∧ Below w.heap.size w w' := check_any h hk 0 (Or.inl ⟨hm, rfl⟩)
theorem check_no {v : Value} {t : Top} {w : World} (h : TopR w v t) (hk : ∀ x ∈ t.ents, x.key.size ≤ maxLen) (hm : ¬ t.may) :
    Calls Try.prog 34 #[v] w fun e w' => e = .returned (.int .i64 8) ∧ Below w.heap.size w w' := check_any h hk 8 (Or.inr ⟨hm, rfl⟩)

theorem room_no {v : Value} {t : Top} {w : World} (h : TopR w v t) (hk : ∀ x ∈ t.ents, x.key.size ≤ maxLen) (hm : ¬ t.may) :
    Calls Try.prog 20 #[v] w fun e w' => e = .returned (.tuple #[.int .i64 0, .int .i64 8]) ∧ Below w.heap.size w w' := by
  have hb0 : ∀ o : Obj, Below w.heap.size w (w.alloc o) := fun o => (Below.refl _ _).alloc (Nat.le_refl _) o
  have K := fun o : Obj => check_no (h.below (hb0 o)) hk hm
  have HK := Lib.hid K
  have HB := Lib.hid hb0
  obtain ⟨a, cap, rfl, _⟩ := h
  clear K hb0 hk hm
  go_enter Try.func20, Try.ntmps20
  go_wp2_with fail
  refine (HK.out _).mono ?_
  rintro e w2 ⟨rfl, hb⟩
  have HB2 := Lib.hid ((HB.out _).trans (hb.mono (by simp)))
  clear hb
  go_wp2_with fail
  go_ret2
  exact ⟨rfl, HB2.out⟩

theorem room_yes {v : Value} {t : Top} {w : World} (h : TopR w v t) (hk : ∀ x ∈ t.ents, x.key.size ≤ maxLen) (hm : t.may) :
    Calls Try.prog 20 #[v] w fun e w' => e = .returned (.tuple #[.int .i64 (roomOf t), .int .i64 0]) ∧ Below w.heap.size w w' := by
  have hb0 : ∀ o : Obj, Below w.heap.size w (w.alloc o) := fun o => (Below.refl _ _).alloc (Nat.le_refl _) o
  have K := fun o : Obj => check_yes (h.below (hb0 o)) hk hm
  have HK := Lib.hid K
  have HB := Lib.hid hb0
  obtain ⟨q1, q2, _, _, _, _, q7⟩ := hm.1
  obtain ⟨a, cap, rfl, _⟩ := h
  obtain ⟨z, hz⟩ : ∃ z, z = roomOf t := ⟨_, rfl⟩
  rw [← hz]
  unfold roomOf at hz
  obtain ⟨next, hnext⟩ : ∃ next, next = t.next := ⟨_, rfl⟩
  obtain ⟨n, hn⟩ : ∃ n, n = t.ents.length := ⟨_, rfl⟩
  rw [← hnext, ← hn] at hz
  rw [← hnext] at q1 q2
  rw [← hn] at q7
  rw [← hnext, ← hn] at HK ⊢
  clear K hb0 hk hm hnext hn
  have w1 : IntKind.i64.wrap (200 - (n : Int)) = 200 - (n : Int) := IntWalk.i64_in _ (by omega)
  have w2 : IntKind.i64.wrap (1073741824 - next) = 1073741824 - next := IntWalk.i64_in _ (by omega)
  obtain ⟨x, hx⟩ : ∃ x, x = 200 - (n : Int) := ⟨_, rfl⟩
  obtain ⟨y, hy⟩ : ∃ y, y = 1073741824 - next := ⟨_, rfl⟩
  rw [← hx] at hz
  rw [← hy] at hz
  have w1' : IntKind.i64.wrap (200 - (n : Int)) = x := by rw [w1, hx]
  have w2' : IntKind.i64.wrap (1073741824 - next) = y := by rw [w2, hy]
  clear w1 w2 hx hy q1 q2 q7
  by_cases hxy : x < y
  · obtain rfl : z = x := by omega
    clear hz
    go_enter Try.func20, Try.ntmps20
    go_wp2_with fail
    refine (HK.out _).mono ?_
    rintro e w2 ⟨rfl, hb⟩
    have HB2 := Lib.hid ((HB.out _).trans (hb.mono (by simp)))
    have b1 := keep hb (a := ⟨w.heap.size, 1, none⟩) (v := .int .i64 next) (by go_simp)
    have b3 := keep hb (a := ⟨w.heap.size, 3, none⟩) (v := .slice a n cap) (by go_simp)
    clear hb
    go_wp2_with fail
    go_ret2
    exact ⟨rfl, HB2.out⟩
  · by_cases hyx : y < x
    · obtain rfl : z = y := by omega
      clear hz hxy
      go_enter Try.func20, Try.ntmps20
      go_wp2_with fail
      refine (HK.out _).mono ?_
      rintro e w2 ⟨rfl, hb⟩
      have HB2 := Lib.hid ((HB.out _).trans (hb.mono (by simp)))
      have b1 := keep hb (a := ⟨w.heap.size, 1, none⟩) (v := .int .i64 next) (by go_simp)
      have b3 := keep hb (a := ⟨w.heap.size, 3, none⟩) (v := .slice a n cap) (by go_simp)
      clear hb
      go_wp2_with fail
      go_ret2
      exact ⟨rfl, HB2.out⟩
    · obtain rfl : z = x := by omega
      obtain rfl : z = y := by omega
      clear hz hxy hyx
      go_enter Try.func20, Try.ntmps20
      go_wp2_with fail
      refine (HK.out _).mono ?_
      rintro e w2 ⟨rfl, hb⟩
      have HB2 := Lib.hid ((HB.out _).trans (hb.mono (by simp)))
      have b1 := keep hb (a := ⟨w.heap.size, 1, none⟩) (v := .int .i64 next) (by go_simp)
      have b3 := keep hb (a := ⟨w.heap.size, 3, none⟩) (v := .slice a n cap) (by go_simp)
      clear hb
      go_wp2_with fail
      go_ret2
      exact ⟨rfl, HB2.out⟩
end Go.Proofs.Ytolgkadoplalnaa
