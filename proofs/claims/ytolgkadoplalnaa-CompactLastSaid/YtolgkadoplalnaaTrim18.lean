/-
  keep.Trim where nothing is let go. No condition but that the topic reads.
-/
import Derived.Test.YtolgkadoplalnaaRoom18
namespace Go.Proofs.Ytolgkadoplalnaa
open Go.RowKit

def noTop : Value := .agg #[.int .i64 0, .int .i64 0, .int .i64 0, .slice none 0 0]

set_option maxHeartbeats 1000000 in
set_option maxRecDepth 100000 in
theorem trim_bad {v : Value} {t : Top} {w : World} (to : Int) (h : TopR w v t) (hk : ∀ x ∈ t.ents, x.key.size ≤ maxLen) (hm : ¬ t.may) :
    Calls Try.prog 18 #[v, .int .i64 to] w fun e w' => e = .returned (.tuple #[noTop, .int .i64 8]) ∧ Below w.heap.size w w' := by
  have hb0 : ∀ o o' : Obj, Below w.heap.size w ((w.alloc o).alloc o') := fun o o' => ((Below.refl _ _).alloc (Nat.le_refl _) o).alloc (by simp) o'
  have K := fun (o o' : Obj) => check_no (h.below (hb0 o o')) hk hm
  have HK := Lib.hid K
  have HB := Lib.hid hb0
  obtain ⟨a, cap, rfl, _⟩ := h
  clear K hb0 hk hm
  go_enter Try.func18, Try.ntmps18
  go_wp2_with fail
  refine (HK.out _ _).mono ?_
  rintro e w2 ⟨rfl, hb⟩
  have HB2 := Lib.hid ((HB.out _ _).trans (hb.mono (by simp; omega)))
  have r0 := keep hb (a := ⟨w.heap.size + 1, 0, none⟩) (v := .int .i64 0) (by go_simp)
  have r1 := keep hb (a := ⟨w.heap.size + 1, 1, none⟩) (v := .int .i64 0) (by go_simp)
  have r2 := keep hb (a := ⟨w.heap.size + 1, 2, none⟩) (v := .int .i64 0) (by go_simp)
  have r3 := keep hb (a := ⟨w.heap.size + 1, 3, none⟩) (v := .slice none 0 0) (by go_simp)
  have q0 : w2.frozen? ⟨w.heap.size + 1, 0, none⟩ = false := by rw [hb.frozen (p := ⟨w.heap.size + 1, 0, none⟩) (by simp)]; go_simp
  have q1 : w2.frozen? ⟨w.heap.size + 1, 1, none⟩ = false := by rw [hb.frozen (p := ⟨w.heap.size + 1, 1, none⟩) (by simp)]; go_simp
  have q2 : w2.frozen? ⟨w.heap.size + 1, 2, none⟩ = false := by rw [hb.frozen (p := ⟨w.heap.size + 1, 2, none⟩) (by simp)]; go_simp
  have q3 : w2.frozen? ⟨w.heap.size + 1, 3, none⟩ = false := by rw [hb.frozen (p := ⟨w.heap.size + 1, 3, none⟩) (by simp)]; go_simp
  clear hb
  go_wp2_with fail
  refine bodyPost_ret (v := .tuple #[noTop, .int .i64 8]) (by simp [noTop, results, Try.results18, go_sem, r0, r1, r2, r3]) rfl ⟨rfl, ?_⟩
  exact (((HB2.out.setCell (p := ⟨w.heap.size + 1, 0, none⟩) (Nat.le_succ _) _).setCell (p := ⟨w.heap.size + 1, 1, none⟩) (Nat.le_succ _) _).setCell (p := ⟨w.heap.size + 1, 2, none⟩) (Nat.le_succ _) _).setCell (p := ⟨w.heap.size + 1, 3, none⟩) (Nat.le_succ _) _
set_option maxHeartbeats 1000000 in
set_option maxRecDepth 100000 in
theorem trim_arg {v : Value} {t : Top} {w : World} (to : Int) (h : TopR w v t) (hk : ∀ x ∈ t.ents, x.key.size ≤ maxLen) (hm : t.may) (hto : to < 0 ∨ 1073741824 < to) :
    Calls Try.prog 18 #[v, .int .i64 to] w fun e w' => e = .returned (.tuple #[noTop, .int .i64 2]) ∧ Below w.heap.size w w' := by
  have hb0 : ∀ o o' : Obj, Below w.heap.size w ((w.alloc o).alloc o') := fun o o' => ((Below.refl _ _).alloc (Nat.le_refl _) o).alloc (by simp) o'
  have K := fun (o o' : Obj) => check_yes (h.below (hb0 o o')) hk hm
  have HK := Lib.hid K
  have HB := Lib.hid hb0
  obtain ⟨a, cap, rfl, _⟩ := h
  clear K hb0 hk hm
  rcases hto with hto | hto
  all_goals
    go_enter Try.func18, Try.ntmps18
    go_wp2_with fail
    refine (HK.out _ _).mono ?_
    rintro e w2 ⟨rfl, hb⟩
    have HB2 := Lib.hid ((HB.out _ _).trans (hb.mono (by simp; omega)))
    have r0 := keep hb (a := ⟨w.heap.size + 1, 0, none⟩) (v := .int .i64 0) (by go_simp)
    have r1 := keep hb (a := ⟨w.heap.size + 1, 1, none⟩) (v := .int .i64 0) (by go_simp)
    have r2 := keep hb (a := ⟨w.heap.size + 1, 2, none⟩) (v := .int .i64 0) (by go_simp)
    have r3 := keep hb (a := ⟨w.heap.size + 1, 3, none⟩) (v := .slice none 0 0) (by go_simp)
    have q0 : w2.frozen? ⟨w.heap.size + 1, 0, none⟩ = false := by rw [hb.frozen (p := ⟨w.heap.size + 1, 0, none⟩) (by simp)]; go_simp
    have q1 : w2.frozen? ⟨w.heap.size + 1, 1, none⟩ = false := by rw [hb.frozen (p := ⟨w.heap.size + 1, 1, none⟩) (by simp)]; go_simp
    have q2 : w2.frozen? ⟨w.heap.size + 1, 2, none⟩ = false := by rw [hb.frozen (p := ⟨w.heap.size + 1, 2, none⟩) (by simp)]; go_simp
    have q3 : w2.frozen? ⟨w.heap.size + 1, 3, none⟩ = false := by rw [hb.frozen (p := ⟨w.heap.size + 1, 3, none⟩) (by simp)]; go_simp
    clear hb
    go_wp2_with fail
    refine bodyPost_ret (v := .tuple #[noTop, .int .i64 2]) (by simp [noTop, results, Try.results18, go_sem, r0, r1, r2, r3]) rfl ⟨rfl, ?_⟩
    exact (((HB2.out.setCell (p := ⟨w.heap.size + 1, 0, none⟩) (Nat.le_succ _) _).setCell (p := ⟨w.heap.size + 1, 1, none⟩) (Nat.le_succ _) _).setCell (p := ⟨w.heap.size + 1, 2, none⟩) (Nat.le_succ _) _).setCell (p := ⟨w.heap.size + 1, 3, none⟩) (Nat.le_succ _) _

end Go.Proofs.Ytolgkadoplalnaa
