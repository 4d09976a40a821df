/-
  The document's Has and Fetch. No condition but that the topic reads.
-/
import Derived.Test.YtolgkadoplalnaaAddP
import Derived.Test.YtolgkadoplalnaaMay17
import Derived.Deep.LoopGhost
namespace Go.Proofs.Ytolgkadoplalnaa
open Go.RowKit

def hasP (t : Top) (o : Int) : Ent × Bool := match t.ents.find? fun x => x.off == o with
  | some x => (x, true)
  | none => (default, false)
/-- An entry and whether there is one. -/
def HasEnd (x : Ent) (b : Bool) (w : World) (e : Ending) (w' : World) : Prop :=
  e = .returned (.tuple #[.agg #[.int .i64 x.off, .int .i64 x.id, .string x.key, .string x.body], .bool b]) ∧ Below w.heap.size w w'

theorem find_first {l : List Ent} {o : Int} {k : Nat} (hk : k < l.length) (h : ∀ j, j < k → (l.getD j default).off ≠ o) (ho : (l.getD k default).off = o) : l.find? (fun x => x.off == o) = some (l.getD k default) := by
  rw [List.find?_eq_some_iff_getElem]
  refine ⟨by simpa using ho, k, hk, (getD_at hk).symm, fun j hj => ?_⟩
  have := h j hj
  rw [getD_at (by omega)] at this
  simpa using this

set_option maxHeartbeats 2000000 in
set_option maxRecDepth 100000 in
theorem has_any {v : Value} {t : Top} {w : World} {x : Ent} {b : Bool} (o : Int) (h : TopR w v t) (hf : hasP t o = (x, b)) :
    Calls Try.prog 56 #[v, .int .i64 o] w (HasEnd x b w) := by
  obtain ⟨a, cap, rfl, hs⟩ := h
  obtain ⟨⟨_, hcap⟩, ⟨hmax, _⟩, hd⟩ := hs.ents
  unfold maxLen at hmax
  have HD := Lib.hid hd
  have HF := Lib.hid hf
  obtain ⟨n, hn⟩ : ∃ n, n = t.ents.length := ⟨_, rfl⟩
  rw [← hn] at HD hcap ⊢
  have HN := Lib.hid hn
  have hn' : (n : Int) ≤ 9223372036854775807 := by omega
  clear hd hf hs hn
  go_enter Try.func56, Try.ntmps56
  go_wp2_with fail
  go_loopg [6] n (fun g i wr => ∃ k : Nat, k ≤ n ∧ g = n - k ∧ i = .int .i64 (k : Int) ∧ Hid (∀ j, j < k → (t.ents.getD j default).off ≠ o) ∧ Hid (Below w.heap.size w wr) ∧
    Hid (Blk wr w.heap.size 24 [.int .i64 t.base, .int .i64 t.next, .int .i64 t.mark, .slice a n cap]) ∧ Hid (Blk wr (w.heap.size + 1) 38 [.int .i64 0, .int .i64 0, .string ⟨#[]⟩, .string ⟨#[]⟩]))
  case atStart =>
    refine ⟨0, Nat.zero_le _, rfl, rfl, (fun j hj => absurd hj (Nat.not_lt_zero _)), ?_, ?_, ?_⟩
    · show Below _ _ _
      repeat (first | (with_reducible exact Below.refl _ _) | (with_reducible exact Below.refl _ _) | (with_reducible apply Below.drew) | (with_reducible apply below_alloc) | ((with_reducible refine Below.alloc ?_ ?_ _); rotate_left; focus (first | (simp; done) | (simp; omega) | omega)) | ((with_reducible refine Below.setCell ?_ ?_ _); rotate_left; focus (first | (simp; done) | (simp; omega) | omega)))
    · show Blk _ _ _ _
      exact Blk.alloc (Blk.new rfl) _
    · show Blk _ _ _ _
      exact Blk.new (by simp)
  case round =>
    obtain ⟨k, hk, rfl, rfl, hall, HB, HA, HR⟩ := hrel
    obtain ⟨a0, a1, a2, a3, az⟩ := cells4 HA.out
    obtain ⟨r0, r1, r2, r3, rz⟩ := cells4 HR.out
    by_cases hlt : k < n
    · have hk0 : (0 : Int) ≤ (k : Int) := by omega
      have hk1 : (k : Int) < (n : Int) := by omega
      obtain ⟨bb, off, ha, hcc⟩ := HD.out (by omega)
      subst ha
      have cc := hcc k (by rw [← HN.out]; exact hlt)
      clear hcc
      obtain ⟨y, hy⟩ : ∃ y, y = t.ents.getD k default := ⟨_, rfl⟩
      rw [← hy] at cc
      have c0 := keep HB.out cc.1.1.1
      have c1 := keep HB.out cc.1.1.2
      have c2 := keep HB.out cc.1.2
      have c3 := keep HB.out cc.2
      have HY := Lib.hid hy
      clear cc hy
      by_cases hyo : y.off = o
      · have hd : (y.off == o) = true := by simpa using hyo
        have hz := HF.out
        rw [hasP, find_first (by rw [← HN.out]; exact hlt) hall.out (by rw [← HY.out]; exact hyo)] at hz
        injection hz with hz1 hz2
        subst hz1 hz2
        clear hyo HF
        go_wp2_with fail
        refine bodyPost_ret (v := .tuple #[.agg #[.int .i64 y.off, .int .i64 y.id, .string y.key, .string y.body], .bool true]) (by simp [results, Try.results56, go_sem, r0, r1, r2, r3]) rfl ⟨by rw [HY.out], ?_⟩
        repeat (first | (with_reducible exact HB.out) | (with_reducible exact Below.refl _ _) | (with_reducible apply Below.drew) | (with_reducible apply below_alloc) | ((with_reducible refine Below.alloc ?_ ?_ _); rotate_left; focus (first | (simp; done) | (simp; omega) | omega)) | ((with_reducible refine Below.setCell ?_ ?_ _); rotate_left; focus (first | (simp; done) | (simp; omega) | omega)))
      · have hd : (y.off == o) = false := by simpa using hyo
        have HYO := Lib.hid hyo
        clear hyo
        go_wp2_with fail
        go_roundg (n - (k + 1))
        case measure => omega
        case rel =>
          refine ⟨k + 1, by omega, rfl, by go_num, fun j hj => ?_, HB, HA, HR⟩
          by_cases hjk : j < k
          · exact hall.out j hjk
          · obtain rfl : j = k := by omega
            rw [← HY.out]; exact HYO.out
    · obtain rfl : k = n := by omega
      have hlt' : ¬ (k : Int) < (k : Int) := by omega
      have hz := HF.out
      rw [hasP, find_none (by rw [← HN.out]; exact hall.out)] at hz
      injection hz with hz1 hz2
      subst hz1 hz2
      clear HF
      go_wp2_with fail
      refine bodyPost_ret (v := .tuple #[.agg #[.int .i64 0, .int .i64 0, .string ⟨#[]⟩, .string ⟨#[]⟩], .bool false]) (by simp [results, Try.results56, go_sem, r0, r1, r2, r3]) rfl ⟨rfl, ?_⟩
      repeat (first | (with_reducible exact HB.out) | (with_reducible exact Below.refl _ _) | (with_reducible apply Below.drew) | (with_reducible apply below_alloc) | ((with_reducible refine Below.alloc ?_ ?_ _); rotate_left; focus (first | (simp; done) | (simp; omega) | omega)) | ((with_reducible refine Below.setCell ?_ ?_ _); rotate_left; focus (first | (simp; done) | (simp; omega) | omega)))

set_option maxHeartbeats 2000000 in
set_option maxRecDepth 100000 in
theorem refFetch_any {v : Value} {t : Top} {w : World} {x : Ent} {n : Int} (o : Int) (h : TopR w v t) (hf : fetchP t o = (x, n)) :
    Calls Try.prog 37 #[v, .int .i64 o] w (EntEnd x n w) := by
  have T := Lib.hid h
  obtain ⟨a, cap, rfl, hs⟩ := h
  obtain ⟨z, hz⟩ : ∃ z, z = decide t.may := ⟨_, rfl⟩
  have M : ∀ (w' : World), TopR w' (.agg #[.int .i64 t.base, .int .i64 t.next, .int .i64 t.mark, .slice a t.ents.length cap]) t → Calls Try.prog 45 #[.agg #[.int .i64 t.base, .int .i64 t.next, .int .i64 t.mark, .slice a t.ents.length cap]] w' fun e w'' => e = .returned (.bool z) ∧ Below w'.heap.size w' w'' := fun w' h => by rw [hz]; exact may17_any h
  have HM := Lib.hid M
  have HZ := Lib.hid hz
  clear M hz hs
  cases z
  · rw [fetchP, if_neg (of_decide_eq_false HZ.out.symm)] at hf
    cases hf
    go_enter Try.func37, Try.ntmps37
    go_wp2_with fail
    refine Calls.mono (HM.out _ ?_) ?_
    · exact T.out.below (by repeat (first | (with_reducible exact Below.refl _ _) | (with_reducible exact Below.refl _ _) | (with_reducible apply Below.drew) | (with_reducible apply below_alloc) | ((with_reducible refine Below.alloc ?_ ?_ _); rotate_left; focus (first | (simp; done) | (simp; omega) | omega)) | ((with_reducible refine Below.setCell ?_ ?_ _); rotate_left; focus (first | (simp; done) | (simp; omega) | omega))))
    rintro e w2 ⟨rfl, hb⟩
    have HB : Hid (Below w.heap.size w _) := below_step (by repeat (first | (with_reducible exact Below.refl _ _) | (with_reducible exact Below.refl _ _) | (with_reducible apply Below.drew) | (with_reducible apply below_alloc) | ((with_reducible refine Below.alloc ?_ ?_ _); rotate_left; focus (first | (simp; done) | (simp; omega) | omega)) | ((with_reducible refine Below.setCell ?_ ?_ _); rotate_left; focus (first | (simp; done) | (simp; omega) | omega)))) hb
    have R : Blk _ (w.heap.size + 1) _ _ := Blk.step (by repeat (first | ((with_reducible apply Blk.new); focus (first | rfl | (simp; done) | (simp; omega))) | (with_reducible apply Blk.drew) | (with_reducible apply Blk.alloc) | (with_reducible apply Blk.set_) | ((with_reducible apply Blk.far); rotate_left; focus (first | (simp; done) | (simp; omega) | omega)))) hb
    obtain ⟨r0, r1, r2, r3, rz⟩ := cells4 R
    have rl := Blk.lt R
    have HR := Lib.hid R
    clear R
    clear hb
    go_wp2_with fail
    refine bodyPost_ret (v := .tuple #[.agg #[.int .i64 0, .int .i64 0, .string ⟨#[]⟩, .string ⟨#[]⟩], .int .i64 8]) (by simp [results, Try.results37, go_sem, r0, r1, r2, r3]) rfl ⟨rfl, ?_⟩
    repeat (first | (with_reducible exact HB.out) | (with_reducible exact Below.refl _ _) | (with_reducible apply Below.drew) | (with_reducible apply below_alloc) | ((with_reducible refine Below.alloc ?_ ?_ _); rotate_left; focus (first | (simp; done) | (simp; omega) | omega)) | ((with_reducible refine Below.setCell ?_ ?_ _); rotate_left; focus (first | (simp; done) | (simp; omega) | omega)))
  · rw [fetchP, if_pos (of_decide_eq_true HZ.out.symm)] at hf
    by_cases h1 : o < 0
    · rw [if_pos h1] at hf
      cases hf
      go_enter Try.func37, Try.ntmps37
      go_wp2_with fail
      refine Calls.mono (HM.out _ ?_) ?_
      · exact T.out.below (by repeat (first | (with_reducible exact Below.refl _ _) | (with_reducible exact Below.refl _ _) | (with_reducible apply Below.drew) | (with_reducible apply below_alloc) | ((with_reducible refine Below.alloc ?_ ?_ _); rotate_left; focus (first | (simp; done) | (simp; omega) | omega)) | ((with_reducible refine Below.setCell ?_ ?_ _); rotate_left; focus (first | (simp; done) | (simp; omega) | omega))))
      rintro e w2 ⟨rfl, hb⟩
      have HB : Hid (Below w.heap.size w _) := below_step (by repeat (first | (with_reducible exact Below.refl _ _) | (with_reducible exact Below.refl _ _) | (with_reducible apply Below.drew) | (with_reducible apply below_alloc) | ((with_reducible refine Below.alloc ?_ ?_ _); rotate_left; focus (first | (simp; done) | (simp; omega) | omega)) | ((with_reducible refine Below.setCell ?_ ?_ _); rotate_left; focus (first | (simp; done) | (simp; omega) | omega)))) hb
      have R : Blk _ (w.heap.size + 1) _ _ := Blk.step (by repeat (first | ((with_reducible apply Blk.new); focus (first | rfl | (simp; done) | (simp; omega))) | (with_reducible apply Blk.drew) | (with_reducible apply Blk.alloc) | (with_reducible apply Blk.set_) | ((with_reducible apply Blk.far); rotate_left; focus (first | (simp; done) | (simp; omega) | omega)))) hb
      obtain ⟨r0, r1, r2, r3, rz⟩ := cells4 R
      have rl := Blk.lt R
      have HR := Lib.hid R
      clear R
      clear hb
      go_wp2_with fail
      refine bodyPost_ret (v := .tuple #[.agg #[.int .i64 0, .int .i64 0, .string ⟨#[]⟩, .string ⟨#[]⟩], .int .i64 2]) (by simp [results, Try.results37, go_sem, r0, r1, r2, r3]) rfl ⟨rfl, ?_⟩
      repeat (first | (with_reducible exact HB.out) | (with_reducible exact Below.refl _ _) | (with_reducible apply Below.drew) | (with_reducible apply below_alloc) | ((with_reducible refine Below.alloc ?_ ?_ _); rotate_left; focus (first | (simp; done) | (simp; omega) | omega)) | ((with_reducible refine Below.setCell ?_ ?_ _); rotate_left; focus (first | (simp; done) | (simp; omega) | omega)))
    · rw [if_neg h1] at hf
      have h1' : 0 ≤ o := by omega
      by_cases h2 : t.next ≤ o
      · rw [if_pos h2] at hf
        cases hf
        go_enter Try.func37, Try.ntmps37
        go_wp2_with fail
        refine Calls.mono (HM.out _ ?_) ?_
        · exact T.out.below (by repeat (first | (with_reducible exact Below.refl _ _) | (with_reducible exact Below.refl _ _) | (with_reducible apply Below.drew) | (with_reducible apply below_alloc) | ((with_reducible refine Below.alloc ?_ ?_ _); rotate_left; focus (first | (simp; done) | (simp; omega) | omega)) | ((with_reducible refine Below.setCell ?_ ?_ _); rotate_left; focus (first | (simp; done) | (simp; omega) | omega))))
        rintro e w2 ⟨rfl, hb⟩
        have HB : Hid (Below w.heap.size w _) := below_step (by repeat (first | (with_reducible exact Below.refl _ _) | (with_reducible exact Below.refl _ _) | (with_reducible apply Below.drew) | (with_reducible apply below_alloc) | ((with_reducible refine Below.alloc ?_ ?_ _); rotate_left; focus (first | (simp; done) | (simp; omega) | omega)) | ((with_reducible refine Below.setCell ?_ ?_ _); rotate_left; focus (first | (simp; done) | (simp; omega) | omega)))) hb
        have A : Blk _ (w.heap.size) _ _ := Blk.step (by repeat (first | ((with_reducible apply Blk.new); focus (first | rfl | (simp; done) | (simp; omega))) | (with_reducible apply Blk.drew) | (with_reducible apply Blk.alloc) | (with_reducible apply Blk.set_) | ((with_reducible apply Blk.far); rotate_left; focus (first | (simp; done) | (simp; omega) | omega)))) hb
        obtain ⟨a0, a1, a2, a3, az⟩ := cells4 A
        have al := Blk.lt A
        have HA := Lib.hid A
        clear A
        have R : Blk _ (w.heap.size + 1) _ _ := Blk.step (by repeat (first | ((with_reducible apply Blk.new); focus (first | rfl | (simp; done) | (simp; omega))) | (with_reducible apply Blk.drew) | (with_reducible apply Blk.alloc) | (with_reducible apply Blk.set_) | ((with_reducible apply Blk.far); rotate_left; focus (first | (simp; done) | (simp; omega) | omega)))) hb
        obtain ⟨r0, r1, r2, r3, rz⟩ := cells4 R
        have rl := Blk.lt R
        have HR := Lib.hid R
        clear R
        clear hb
        go_wp2_with fail
        refine bodyPost_ret (v := .tuple #[.agg #[.int .i64 0, .int .i64 0, .string ⟨#[]⟩, .string ⟨#[]⟩], .int .i64 170]) (by simp [results, Try.results37, go_sem, r0, r1, r2, r3]) rfl ⟨rfl, ?_⟩
        repeat (first | (with_reducible exact HB.out) | (with_reducible exact Below.refl _ _) | (with_reducible apply Below.drew) | (with_reducible apply below_alloc) | ((with_reducible refine Below.alloc ?_ ?_ _); rotate_left; focus (first | (simp; done) | (simp; omega) | omega)) | ((with_reducible refine Below.setCell ?_ ?_ _); rotate_left; focus (first | (simp; done) | (simp; omega) | omega)))
      · rw [if_neg h2] at hf
        have h2' : o < t.next := by omega
        by_cases h3 : o < t.base
        · rw [if_pos h3] at hf
          cases hf
          go_enter Try.func37, Try.ntmps37
          go_wp2_with fail
          refine Calls.mono (HM.out _ ?_) ?_
          · exact T.out.below (by repeat (first | (with_reducible exact Below.refl _ _) | (with_reducible exact Below.refl _ _) | (with_reducible apply Below.drew) | (with_reducible apply below_alloc) | ((with_reducible refine Below.alloc ?_ ?_ _); rotate_left; focus (first | (simp; done) | (simp; omega) | omega)) | ((with_reducible refine Below.setCell ?_ ?_ _); rotate_left; focus (first | (simp; done) | (simp; omega) | omega))))
          rintro e w2 ⟨rfl, hb⟩
          have HB : Hid (Below w.heap.size w _) := below_step (by repeat (first | (with_reducible exact Below.refl _ _) | (with_reducible exact Below.refl _ _) | (with_reducible apply Below.drew) | (with_reducible apply below_alloc) | ((with_reducible refine Below.alloc ?_ ?_ _); rotate_left; focus (first | (simp; done) | (simp; omega) | omega)) | ((with_reducible refine Below.setCell ?_ ?_ _); rotate_left; focus (first | (simp; done) | (simp; omega) | omega)))) hb
          have A : Blk _ (w.heap.size) _ _ := Blk.step (by repeat (first | ((with_reducible apply Blk.new); focus (first | rfl | (simp; done) | (simp; omega))) | (with_reducible apply Blk.drew) | (with_reducible apply Blk.alloc) | (with_reducible apply Blk.set_) | ((with_reducible apply Blk.far); rotate_left; focus (first | (simp; done) | (simp; omega) | omega)))) hb
          obtain ⟨a0, a1, a2, a3, az⟩ := cells4 A
          have al := Blk.lt A
          have HA := Lib.hid A
          clear A
          have R : Blk _ (w.heap.size + 1) _ _ := Blk.step (by repeat (first | ((with_reducible apply Blk.new); focus (first | rfl | (simp; done) | (simp; omega))) | (with_reducible apply Blk.drew) | (with_reducible apply Blk.alloc) | (with_reducible apply Blk.set_) | ((with_reducible apply Blk.far); rotate_left; focus (first | (simp; done) | (simp; omega) | omega)))) hb
          obtain ⟨r0, r1, r2, r3, rz⟩ := cells4 R
          have rl := Blk.lt R
          have HR := Lib.hid R
          clear R
          clear hb
          go_wp2_with fail
          refine bodyPost_ret (v := .tuple #[.agg #[.int .i64 0, .int .i64 0, .string ⟨#[]⟩, .string ⟨#[]⟩], .int .i64 171]) (by simp [results, Try.results37, go_sem, r0, r1, r2, r3]) rfl ⟨rfl, ?_⟩
          repeat (first | (with_reducible exact HB.out) | (with_reducible exact Below.refl _ _) | (with_reducible apply Below.drew) | (with_reducible apply below_alloc) | ((with_reducible refine Below.alloc ?_ ?_ _); rotate_left; focus (first | (simp; done) | (simp; omega) | omega)) | ((with_reducible refine Below.setCell ?_ ?_ _); rotate_left; focus (first | (simp; done) | (simp; omega) | omega)))
        · rw [if_neg h3] at hf
          obtain ⟨y, q, hyq⟩ : ∃ y q, hasP t o = (y, q) := ⟨_, _, rfl⟩
          have hxn : (q = true ∧ x = y ∧ n = 0) ∨ (q = false ∧ x = default ∧ n = 172) := by
            unfold hasP at hyq
            cases hfi : t.ents.find? (fun x => x.off == o) with
            | none => rw [hfi] at hf hyq; cases hf; cases hyq; exact Or.inr ⟨rfl, rfl, rfl⟩
            | some z => rw [hfi] at hf hyq; cases hf; cases hyq; exact Or.inl ⟨rfl, rfl, rfl⟩
          have HYQ := Lib.hid hyq
          clear hf hyq
          rcases hxn with ⟨rfl, rfl, rfl⟩ | ⟨rfl, rfl, rfl⟩
          all_goals
            go_enter Try.func37, Try.ntmps37
            go_wp2_with fail
            refine Calls.mono (HM.out _ ?_) ?_
            · exact T.out.below (by repeat (first | (with_reducible exact Below.refl _ _) | (with_reducible exact Below.refl _ _) | (with_reducible apply Below.drew) | (with_reducible apply below_alloc) | ((with_reducible refine Below.alloc ?_ ?_ _); rotate_left; focus (first | (simp; done) | (simp; omega) | omega)) | ((with_reducible refine Below.setCell ?_ ?_ _); rotate_left; focus (first | (simp; done) | (simp; omega) | omega))))
            rintro e w2 ⟨rfl, hb⟩
            have HB : Hid (Below w.heap.size w _) := below_step (by repeat (first | (with_reducible exact Below.refl _ _) | (with_reducible exact Below.refl _ _) | (with_reducible apply Below.drew) | (with_reducible apply below_alloc) | ((with_reducible refine Below.alloc ?_ ?_ _); rotate_left; focus (first | (simp; done) | (simp; omega) | omega)) | ((with_reducible refine Below.setCell ?_ ?_ _); rotate_left; focus (first | (simp; done) | (simp; omega) | omega)))) hb
            have A : Blk _ (w.heap.size) _ _ := Blk.step (by repeat (first | ((with_reducible apply Blk.new); focus (first | rfl | (simp; done) | (simp; omega))) | (with_reducible apply Blk.drew) | (with_reducible apply Blk.alloc) | (with_reducible apply Blk.set_) | ((with_reducible apply Blk.far); rotate_left; focus (first | (simp; done) | (simp; omega) | omega)))) hb
            obtain ⟨a0, a1, a2, a3, az⟩ := cells4 A
            have al := Blk.lt A
            have HA := Lib.hid A
            clear A
            have R : Blk _ (w.heap.size + 1) _ _ := Blk.step (by repeat (first | ((with_reducible apply Blk.new); focus (first | rfl | (simp; done) | (simp; omega))) | (with_reducible apply Blk.drew) | (with_reducible apply Blk.alloc) | (with_reducible apply Blk.set_) | ((with_reducible apply Blk.far); rotate_left; focus (first | (simp; done) | (simp; omega) | omega)))) hb
            obtain ⟨r0, r1, r2, r3, rz⟩ := cells4 R
            have rl := Blk.lt R
            have HR := Lib.hid R
            clear R
            replace T : Hid (TopR _ _ _) := topR_step T.out (by repeat (first | (with_reducible exact Below.refl _ _) | (with_reducible exact Below.refl _ _) | (with_reducible apply Below.drew) | (with_reducible apply below_alloc) | ((with_reducible refine Below.alloc ?_ ?_ _); rotate_left; focus (first | (simp; done) | (simp; omega) | omega)) | ((with_reducible refine Below.setCell ?_ ?_ _); rotate_left; focus (first | (simp; done) | (simp; omega) | omega)))) hb
            clear hb
            go_wp2_with fail
            refine Calls.mono (has_any o ?_ HYQ.out) ?_
            · exact T.out.below (by repeat (first | (with_reducible exact Below.refl _ _) | (with_reducible exact Below.refl _ _) | (with_reducible apply Below.drew) | (with_reducible apply below_alloc) | ((with_reducible refine Below.alloc ?_ ?_ _); rotate_left; focus (first | (simp; done) | (simp; omega) | omega)) | ((with_reducible refine Below.setCell ?_ ?_ _); rotate_left; focus (first | (simp; done) | (simp; omega) | omega))))
            rintro e w3 ⟨rfl, hb⟩
            replace HB : Hid (Below w.heap.size w _) := below_step (by repeat (first | (with_reducible exact HB.out) | (with_reducible exact Below.refl _ _) | (with_reducible apply Below.drew) | (with_reducible apply below_alloc) | ((with_reducible refine Below.alloc ?_ ?_ _); rotate_left; focus (first | (simp; done) | (simp; omega) | omega)) | ((with_reducible refine Below.setCell ?_ ?_ _); rotate_left; focus (first | (simp; done) | (simp; omega) | omega)))) hb
            clear r0 r1 r2 r3 rz rl
            replace HR : Hid (Blk _ (w.heap.size + 1) _ _) := Blk.step (by repeat (first | (with_reducible exact HR.out) | ((with_reducible apply Blk.new); focus (first | rfl | (simp; done) | (simp; omega))) | (with_reducible apply Blk.drew) | (with_reducible apply Blk.alloc) | (with_reducible apply Blk.set_) | ((with_reducible apply Blk.far); rotate_left; focus (first | (simp; done) | (simp; omega) | omega)))) hb
            obtain ⟨r0, r1, r2, r3, rz⟩ := cells4 HR.out
            have rl := Blk.lt HR.out
            clear hb
            go_wp2_with fail
          · refine bodyPost_ret (v := .tuple #[.agg #[.int .i64 x.off, .int .i64 x.id, .string x.key, .string x.body], .int .i64 0]) (by simp [results, Try.results37, go_sem, r0, r1, r2, r3, rl]) rfl ⟨rfl, ?_⟩
            repeat (first | (with_reducible exact HB.out) | (with_reducible exact Below.refl _ _) | (with_reducible apply Below.drew) | (with_reducible apply below_alloc) | ((with_reducible refine Below.alloc ?_ ?_ _); rotate_left; focus (first | (simp; done) | (simp; omega) | omega)) | ((with_reducible refine Below.setCell ?_ ?_ _); rotate_left; focus (first | (simp; done) | (simp; omega) | omega)))
          · refine bodyPost_ret (v := .tuple #[.agg #[.int .i64 0, .int .i64 0, .string ⟨#[]⟩, .string ⟨#[]⟩], .int .i64 172]) (by simp [results, Try.results37, go_sem, r0, r1, r2, r3, rl]) rfl ⟨rfl, ?_⟩
            repeat (first | (with_reducible exact HB.out) | (with_reducible exact Below.refl _ _) | (with_reducible apply Below.drew) | (with_reducible apply below_alloc) | ((with_reducible refine Below.alloc ?_ ?_ _); rotate_left; focus (first | (simp; done) | (simp; omega) | omega)) | ((with_reducible refine Below.setCell ?_ ?_ _); rotate_left; focus (first | (simp; done) | (simp; omega) | omega)))
end Go.Proofs.Ytolgkadoplalnaa
