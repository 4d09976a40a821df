/-
  model.shaped; the document's plain: may a topic as it is to be be.
-/
import Derived.Test.YtblgmjbajnkcdabMdlEnt
namespace Go.Proofs.Ytblgmjbajnkcdab
open Go.RowKit

set_option maxHeartbeats 4000000 in
set_option maxRecDepth 100000 in
theorem shaped_any {v : Value} {p : Pl} {w : World} (h : PlR w v p) : Calls Try.prog 59 #[v] w fun e w' => e = .returned (.bool (decide (shapedP p))) ∧ Below w.heap.size w w' := by
  obtain ⟨a, cap, rfl, hsl⟩ := h
  obtain ⟨⟨_, hcap⟩, ⟨hmx, _⟩, hd⟩ := hsl.ents
  have HD := Lib.hid hd
  obtain ⟨n, hn⟩ : ∃ n, n = p.all.length := ⟨_, rfl⟩
  rw [← hn] at HD hcap ⊢
  have HN := Lib.hid hn
  unfold maxLen at hmx
  have hl0 : (n : Int) ≤ 9223372036854775807 := by omega
  obtain ⟨z, hz⟩ : ∃ z, z = decide (shapedP p) := ⟨_, rfl⟩
  rw [← hz]
  have HZ := Lib.hid hz
  clear hsl hd hn hz
  go_enter Try.func59, Try.ntmps59
  go_wp2_with fail
  go_loopg [8] n (fun g i wr => ∃ k : Nat, k ≤ n ∧ g = n - k ∧ i = .int .i64 (k : Int) ∧ Hid (∀ j, j < k → entAt p j) ∧ Hid (Below w.heap.size w wr) ∧ Hid (Blk wr w.heap.size 84 [.slice a n cap, .int .i64 p.base, .int .i64 p.mark]))
  case atStart => exact ⟨0, Nat.zero_le _, rfl, rfl, (fun j hj => absurd hj (Nat.not_lt_zero _)), below_alloc (Below.refl _ _), Blk.new rfl⟩
  case round =>
    obtain ⟨k, hk, rfl, rfl, HA, HB, HP⟩ := hrel
    obtain ⟨p0, p1, p2, pz⟩ := cells3 HP.out
    have pl := HP.out.lt
    by_cases hlt : k < n
    · have hk0 : (0 : Int) ≤ (k : Int) := by omega
      have hk1 : (k : Int) < (n : Int) := by omega
      have hkl : k < p.all.length := by rw [← HN.out]; exact hlt
      obtain ⟨bb, off, ha, h1⟩ := HD.out (by omega)
      subst ha
      have cc := h1 k hkl
      clear h1
      obtain ⟨x, hx⟩ : ∃ x, x = p.all.getD k default := ⟨_, rfl⟩
      rw [← hx] at cc
      have c0 := keep HB.out cc.1.1.1
      have c1 := keep HB.out cc.1.1.2
      have c2 := keep HB.out cc.1.2
      have c3 := keep HB.out cc.2
      have hgb : bb < wr.heap.size := World.block_lt_of_cell? wr _ c0
      have HX := Lib.hid hx
      have HKL := Lib.hid hkl
      clear hx cc hkl
      by_cases hent : entAt p k
      · have h9 := hent
        unfold entAt Top.okEnt at h9
        rw [← HX.out] at h9
        obtain ⟨e1, e2, e3, e4, e5⟩ := h9
        have b1 : (x.off != (k : Int)) = false := by simp [e1]
        have b2 : ¬ x.id < 0 := by omega
        have b3 : ¬ 6291456 ≤ x.id := by omega
        have b4 : ¬ 16 < (x.key.size : Int) := by omega
        have b5 : ¬ 64 < (x.body.size : Int) := by omega
        have HE := Lib.hid hent
        clear hent e1 e2 e3 e4 e5
        go_wp2_with fail
        go_roundg (n - (k + 1))
        case measure => omega
        case rel =>
          refine ⟨k + 1, by omega, rfl, by go_num, fun j hj => ?_, below_alloc HB.out, HP.out.alloc _⟩
          by_cases hjk : j < k
          · exact HA.out j hjk
          · obtain rfl : j = k := by omega
            exact HE.out
      · have hz : z = false := by
          rw [HZ.out]
          exact decide_eq_false (fun hs => hent (hs.1 k HKL.out))
        subst hz
        have hbad : ((x.off != (k : Int)) = true) ∨ ((x.off != (k : Int)) = false ∧ x.id < 0) ∨ ((x.off != (k : Int)) = false ∧ ¬ x.id < 0 ∧ 6291456 ≤ x.id) ∨ ((x.off != (k : Int)) = false ∧ ¬ x.id < 0 ∧ ¬ 6291456 ≤ x.id ∧ 16 < (x.key.size : Int)) ∨ ((x.off != (k : Int)) = false ∧ ¬ x.id < 0 ∧ ¬ 6291456 ≤ x.id ∧ ¬ 16 < (x.key.size : Int) ∧ 64 < (x.body.size : Int)) := by
          unfold entAt Top.okEnt at hent
          rw [← HX.out] at hent
          by_cases e1 : x.off = (k : Int)
          · have b1 : (x.off != (k : Int)) = false := by simp [e1]
            simp only [b1, true_and]
            omega
          · exact Or.inl (by simpa using e1)
        clear hent
        rcases hbad with b1 | ⟨b1, b2⟩ | ⟨b1, b2, b3⟩ | ⟨b1, b2, b3, b4⟩ | ⟨b1, b2, b3, b4, b5⟩
        all_goals
          go_wp2_with fail
          go_ret
          refine ⟨rfl, ?_⟩
          repeat (first | (with_reducible exact HB.out) | (with_reducible exact Below.refl _ _) | (with_reducible apply Below.drew) | (with_reducible apply below_alloc) | ((with_reducible refine Below.alloc ?_ ?_ _); rotate_left; focus (first | (simp; done) | (simp; omega) | omega)) | ((with_reducible refine Below.setCell ?_ ?_ _); rotate_left; focus (first | (simp; done) | (simp; omega) | omega)))
    · obtain rfl : k = n := by omega
      have hlt' : ¬ (k : Int) < (k : Int) := by omega
      have hfin : (600 < (k : Int) ∧ z = false) ∨ (¬ 600 < (k : Int) ∧ p.base < 0 ∧ z = false) ∨ (¬ 600 < (k : Int) ∧ ¬ p.base < 0 ∧ (k : Int) < p.base ∧ z = false) ∨ (¬ 600 < (k : Int) ∧ ¬ p.base < 0 ∧ ¬ (k : Int) < p.base ∧ p.mark < 0 ∧ z = false) ∨ (¬ 600 < (k : Int) ∧ ¬ p.base < 0 ∧ ¬ (k : Int) < p.base ∧ ¬ p.mark < 0 ∧ (k : Int) < p.mark ∧ z = false) ∨ (¬ 600 < (k : Int) ∧ ¬ p.base < 0 ∧ ¬ (k : Int) < p.base ∧ ¬ p.mark < 0 ∧ ¬ (k : Int) < p.mark ∧ z = true) := by
        have hN := HN.out
        by_cases hs : shapedP p
        · have := hs.2
          rw [← hN] at this
          rw [HZ.out, decide_eq_true hs]
          simp
          omega
        · have : ¬ (p.all.length ≤ 600 ∧ (0 ≤ p.base ∧ p.base ≤ (p.all.length : Int)) ∧ 0 ≤ p.mark ∧ p.mark ≤ (p.all.length : Int)) := fun h9 => hs ⟨fun i hi => HA.out i (by rw [hN]; exact hi), h9⟩
          rw [← hN] at this
          rw [HZ.out, decide_eq_false hs]
          simp
          omega
      rcases hfin with ⟨b1, rfl⟩ | ⟨b1, b2, rfl⟩ | ⟨b1, b2, b3, rfl⟩ | ⟨b1, b2, b3, b4, rfl⟩ | ⟨b1, b2, b3, b4, b5, rfl⟩ | ⟨b1, b2, b3, b4, b5, rfl⟩
      all_goals
        clear HZ
        go_wp2_with fail
        go_ret
        exact ⟨by first | rfl | (simp; omega), HB.out⟩

set_option maxHeartbeats 4000000 in
set_option maxRecDepth 100000 in
theorem refPlain_any {v : Value} {p : Pl} {w : World} (h : PlR w v p) : Calls Try.prog 85 #[v] w fun e w' => e = .returned (.bool (decide (shapedP p ∧ (entP p).length ≤ 200))) ∧ Below w.heap.size w w' := by
  have hPP := h
  obtain ⟨a, cap, rfl, hsl⟩ := h
  obtain ⟨⟨_, hcap⟩, ⟨hmx, _⟩, hd⟩ := hsl.ents
  have HD := Lib.hid hd
  obtain ⟨n, hn⟩ : ∃ n, n = p.all.length := ⟨_, rfl⟩
  rw [← hn] at HD hcap hPP ⊢
  have HN := Lib.hid hn
  unfold maxLen at hmx
  have hl0 : (n : Int) ≤ 9223372036854775807 := by omega
  obtain ⟨z, hz⟩ : ∃ z, z = decide (shapedP p ∧ (entP p).length ≤ 200) := ⟨_, rfl⟩
  rw [← hz]
  have HZ := Lib.hid hz
  clear hsl hd hn hz
  have hpre : (600 < (n : Int) ∧ z = false) ∨ (¬ 600 < (n : Int) ∧ p.base < 0 ∧ z = false) ∨ (¬ 600 < (n : Int) ∧ ¬ p.base < 0 ∧ (n : Int) < p.base ∧ z = false) ∨ (¬ 600 < (n : Int) ∧ ¬ p.base < 0 ∧ ¬ (n : Int) < p.base ∧ p.mark < 0 ∧ z = false) ∨ (¬ 600 < (n : Int) ∧ ¬ p.base < 0 ∧ ¬ (n : Int) < p.base ∧ ¬ p.mark < 0 ∧ (n : Int) < p.mark ∧ z = false) ∨ (¬ 600 < (n : Int) ∧ ¬ p.base < 0 ∧ ¬ (n : Int) < p.base ∧ ¬ p.mark < 0 ∧ ¬ (n : Int) < p.mark) := by
    have hN := HN.out
    by_cases hs : shapedP p
    · have := hs.2
      rw [← hN] at this
      omega
    · have e : z = false := by rw [HZ.out]; exact decide_eq_false (fun h => hs h.1)
      simp only [e, and_true]
      omega
  have HPP := Lib.hid hPP
  clear hPP
  rcases hpre with ⟨b1, rfl⟩ | ⟨b1, b2, rfl⟩ | ⟨b1, b2, b3, rfl⟩ | ⟨b1, b2, b3, b4, rfl⟩ | ⟨b1, b2, b3, b4, b5, rfl⟩ | ⟨s1, s2, s3, s4, s5⟩
  rotate_right
  rotate_left
  · go_enter Try.func85, Try.ntmps85
    go_wp2_with fail
    go_ret
    exact ⟨rfl, below_alloc (Below.refl _ _)⟩
  · go_enter Try.func85, Try.ntmps85
    go_wp2_with fail
    go_ret
    exact ⟨rfl, below_alloc (Below.refl _ _)⟩
  · go_enter Try.func85, Try.ntmps85
    go_wp2_with fail
    go_ret
    exact ⟨rfl, below_alloc (Below.refl _ _)⟩
  · go_enter Try.func85, Try.ntmps85
    go_wp2_with fail
    go_ret
    exact ⟨rfl, below_alloc (Below.refl _ _)⟩
  · go_enter Try.func85, Try.ntmps85
    go_wp2_with fail
    go_ret
    exact ⟨rfl, below_alloc (Below.refl _ _)⟩
  have HS5 := Lib.hid (show ¬ 600 < (n : Int) ∧ (¬ p.base < 0 ∧ ¬ (n : Int) < p.base) ∧ ¬ p.mark < 0 ∧ ¬ (n : Int) < p.mark from ⟨s1, ⟨s2, s3⟩, s4, s5⟩)
  go_enter Try.func85, Try.ntmps85
  go_wp2_with fail
  go_loopg [3] n (fun g i wr => ∃ k : Nat, k ≤ n ∧ g = n - k ∧ i = .int .i64 (k : Int) ∧ Hid (∀ j, j < k → entAt p j) ∧ Hid (Below w.heap.size w wr) ∧ Hid (Blk wr w.heap.size 84 [.slice a n cap, .int .i64 p.base, .int .i64 p.mark]))
  case atStart => exact ⟨0, Nat.zero_le _, rfl, rfl, (fun j hj => absurd hj (Nat.not_lt_zero _)), below_alloc (Below.refl _ _), Blk.new rfl⟩
  case round =>
    obtain ⟨k, hk, rfl, rfl, HA, HB, HP⟩ := hrel
    obtain ⟨p0, p1, p2, pz⟩ := cells3 HP.out
    have pl := HP.out.lt
    by_cases hlt : k < n
    · have hk0 : (0 : Int) ≤ (k : Int) := by omega
      have hk1 : (k : Int) < (n : Int) := by omega
      have hkl : k < p.all.length := by rw [← HN.out]; exact hlt
      obtain ⟨bb, off, ha, h1⟩ := HD.out (by omega)
      subst ha
      have cc := h1 k hkl
      clear h1
      obtain ⟨x, hx⟩ : ∃ x, x = p.all.getD k default := ⟨_, rfl⟩
      rw [← hx] at cc
      have c0 := keep HB.out cc.1.1.1
      have c1 := keep HB.out cc.1.1.2
      have c2 := keep HB.out cc.1.2
      have c3 := keep HB.out cc.2
      have hgb : bb < wr.heap.size := World.block_lt_of_cell? wr _ c0
      have HX := Lib.hid hx
      have HKL := Lib.hid hkl
      clear hx cc hkl
      by_cases hent : entAt p k
      · have h9 := hent
        unfold entAt Top.okEnt at h9
        rw [← HX.out] at h9
        obtain ⟨e1, e2, e3, e4, e5⟩ := h9
        have b1 : (x.off != (k : Int)) = false := by simp [e1]
        have b2 : ¬ x.id < 0 := by omega
        have b3 : ¬ 6291456 ≤ x.id := by omega
        have b4 : ¬ 16 < (x.key.size : Int) := by omega
        have b5 : ¬ 64 < (x.body.size : Int) := by omega
        have HE := Lib.hid hent
        clear hent e1 e2 e3 e4 e5
        go_wp2_with fail
        go_roundg (n - (k + 1))
        case measure => omega
        case rel =>
          refine ⟨k + 1, by omega, rfl, by go_num, fun j hj => ?_, below_alloc HB.out, HP.out.alloc _⟩
          by_cases hjk : j < k
          · exact HA.out j hjk
          · obtain rfl : j = k := by omega
            exact HE.out
      · have hz : z = false := by
          rw [HZ.out]
          exact decide_eq_false (fun hs => hent (hs.1.1 k HKL.out))
        subst hz
        have hbad : ((x.off != (k : Int)) = true) ∨ ((x.off != (k : Int)) = false ∧ x.id < 0) ∨ ((x.off != (k : Int)) = false ∧ ¬ x.id < 0 ∧ 6291456 ≤ x.id) ∨ ((x.off != (k : Int)) = false ∧ ¬ x.id < 0 ∧ ¬ 6291456 ≤ x.id ∧ 16 < (x.key.size : Int)) ∨ ((x.off != (k : Int)) = false ∧ ¬ x.id < 0 ∧ ¬ 6291456 ≤ x.id ∧ ¬ 16 < (x.key.size : Int) ∧ 64 < (x.body.size : Int)) := by
          unfold entAt Top.okEnt at hent
          rw [← HX.out] at hent
          by_cases e1 : x.off = (k : Int)
          · have b1 : (x.off != (k : Int)) = false := by simp [e1]
            simp only [b1, true_and]
            omega
          · exact Or.inl (by simpa using e1)
        clear hent
        rcases hbad with b1 | ⟨b1, b2⟩ | ⟨b1, b2, b3⟩ | ⟨b1, b2, b3, b4⟩ | ⟨b1, b2, b3, b4, b5⟩
        all_goals
          go_wp2_with fail
          go_ret
          refine ⟨rfl, ?_⟩
          repeat (first | (with_reducible exact HB.out) | (with_reducible exact Below.refl _ _) | (with_reducible apply Below.drew) | (with_reducible apply below_alloc) | ((with_reducible refine Below.alloc ?_ ?_ _); rotate_left; focus (first | (simp; done) | (simp; omega) | omega)) | ((with_reducible refine Below.setCell ?_ ?_ _); rotate_left; focus (first | (simp; done) | (simp; omega) | omega)))
    · obtain rfl : k = n := by omega
      have hlt' : ¬ (k : Int) < (k : Int) := by omega
      have HSH : Hid (shapedP p) := Lib.hid ⟨fun i hi => HA.out i (by rw [HN.out]; exact hi), by
        have := HS5.out
        rw [HN.out] at this
        omega⟩
      go_wp2_with fail
      refine Calls.mono (refEntries_any (p := p) ?_ HSH.out) ?_
      · exact HPP.out.below (by repeat (first | (with_reducible exact HB.out) | (with_reducible exact Below.refl _ _) | (with_reducible apply Below.drew) | (with_reducible apply below_alloc) | ((with_reducible refine Below.alloc ?_ ?_ _); rotate_left; focus (first | (simp; done) | (simp; omega) | omega)) | ((with_reducible refine Below.setCell ?_ ?_ _); rotate_left; focus (first | (simp; done) | (simp; omega) | omega))))
      rintro e w1 ⟨a1, cap1, rfl, -, hb⟩
      have hz : z = decide ((entP p).length ≤ 200) := by
        rw [HZ.out]
        simp [HSH.out]
      have HZ2 := Lib.hid hz
      replace HB : Hid (Below w.heap.size w _) := below_step (by repeat (first | (with_reducible exact HB.out) | (with_reducible exact Below.refl _ _) | (with_reducible apply Below.drew) | (with_reducible apply below_alloc) | ((with_reducible refine Below.alloc ?_ ?_ _); rotate_left; focus (first | (simp; done) | (simp; omega) | omega)) | ((with_reducible refine Below.setCell ?_ ?_ _); rotate_left; focus (first | (simp; done) | (simp; omega) | omega)))) hb
      clear hb hz
      go_wp2_with fail
      go_ret
      refine ⟨?_, HB.out⟩
      rw [HZ2.out]
      first | rfl | (simp; done) | (simp; omega)
end Go.Proofs.Ytblgmjbajnkcdab
