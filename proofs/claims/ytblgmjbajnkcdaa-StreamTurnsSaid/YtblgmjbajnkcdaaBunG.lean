/-
  Texts that belong together; the remark at the head of each says what it proves.
-/
import Derived.Test.YtblgmjbajnkcdaaBunE
import Derived.Test.YtblgmjbajnkcdaaBunF
import Derived.Deep.LoopGhost
import Derived.Deep.RegionHeld3
set_option maxRecDepth 100000
/-
  The document's Has and Fetch. No condition but that the topic reads.
-/
namespace Go.Proofs.Ytblgmjbajnkcdaa
open Go.RowKit

def hasP (t : Top) (o : Int) : Ent × Bool := match t.ents.find? fun x => x.off == o with
  | some x => (x, true)
  | none => (default, false)
/-- An entry and whether there is one. -/
def HasEnd (x : Ent) (b : Bool) (w : World) (e : Ending) (w' : World) : Prop :=
  e = .returned (.tuple #[.agg #[.int .i64 x.off, .int .i64 x.id, .string x.key, .string x.body], .bool b]) ∧ Below w.heap.size w w'

theorem find_first {l : List Ent} {o : Int} {k : Nat} (hk : k < l.length) (h : ∀ j, j < k → (l.getD j default).off ≠ o) (ho : (l.getD k default).off = o) : l.find? (fun x => x.off == o) = some (l.getD k default) := by
  rw [List.find?_eq_some_iff_getElem]
  refine ⟨by simpa using ho, k, hk, (getD_at hk).symm, fun j hj => ?_⟩
  have := h j hj
  rw [getD_at (by omega)] at this
  simpa using this

set_option maxHeartbeats 2000000 in
set_option maxRecDepth 100000 in
theorem has_any {v : Value} {t : Top} {w : World} {x : Ent} {b : Bool} (o : Int) (h : TopR w v t) (hf : hasP t o = (x, b)) :
    Calls Try.prog 69 #[v, .int .i64 o] w (HasEnd x b w) := by
  obtain ⟨a, cap, rfl, hs⟩ := h
  obtain ⟨⟨_, hcap⟩, ⟨hmax, _⟩, hd⟩ := hs.ents
  unfold maxLen at hmax
  have HD := Lib.hid hd
  have HF := Lib.hid hf
  obtain ⟨n, hn⟩ : ∃ n, n = t.ents.length := ⟨_, rfl⟩
  rw [← hn] at HD hcap ⊢
  have HN := Lib.hid hn
  have hn' : (n : Int) ≤ 9223372036854775807 := by omega
  clear hd hf hs hn
  go_enter Try.func69, Try.ntmps69
  go_wp2_with fail
  go_loopg [6] n (fun g i wr => ∃ k : Nat, k ≤ n ∧ g = n - k ∧ i = .int .i64 (k : Int) ∧ Hid (∀ j, j < k → (t.ents.getD j default).off ≠ o) ∧ Hid (Below w.heap.size w wr) ∧
    Hid (Blk wr w.heap.size 72 [.int .i64 t.base, .int .i64 t.next, .int .i64 t.mark, .slice a n cap]) ∧ Hid (Blk wr (w.heap.size + 1) 29 [.int .i64 0, .int .i64 0, .string ⟨#[]⟩, .string ⟨#[]⟩]))
  case atStart =>
    refine ⟨0, Nat.zero_le _, rfl, rfl, (fun j hj => absurd hj (Nat.not_lt_zero _)), ?_, ?_, ?_⟩
    · show Below _ _ _
      repeat (first | (with_reducible exact Below.refl _ _) | (with_reducible exact Below.refl _ _) | (with_reducible apply Below.drew) | (with_reducible apply below_alloc) | ((with_reducible refine Below.alloc ?_ ?_ _); rotate_left; focus (first | (simp; done) | (simp; omega) | omega)) | ((with_reducible refine Below.setCell ?_ ?_ _); rotate_left; focus (first | (simp; done) | (simp; omega) | omega)))
    · show Blk _ _ _ _
      exact Blk.alloc (Blk.new rfl) _
    · show Blk _ _ _ _
      exact Blk.new (by simp)
  case round =>
    obtain ⟨k, hk, rfl, rfl, hall, HB, HA, HR⟩ := hrel
    obtain ⟨a0, a1, a2, a3, az⟩ := cells4 HA.out
    obtain ⟨r0, r1, r2, r3, rz⟩ := cells4 HR.out
    by_cases hlt : k < n
    · have hk0 : (0 : Int) ≤ (k : Int) := by omega
      have hk1 : (k : Int) < (n : Int) := by omega
      obtain ⟨bb, off, ha, hcc⟩ := HD.out (by omega)
      subst ha
      have cc := hcc k (by rw [← HN.out]; exact hlt)
      clear hcc
      obtain ⟨y, hy⟩ : ∃ y, y = t.ents.getD k default := ⟨_, rfl⟩
      rw [← hy] at cc
      have c0 := keep HB.out cc.1.1.1
      have c1 := keep HB.out cc.1.1.2
      have c2 := keep HB.out cc.1.2
      have c3 := keep HB.out cc.2
      have HY := Lib.hid hy
      clear cc hy
      by_cases hyo : y.off = o
      · have hd : (y.off == o) = true := by simpa using hyo
        have hz := HF.out
        rw [hasP, find_first (by rw [← HN.out]; exact hlt) hall.out (by rw [← HY.out]; exact hyo)] at hz
        injection hz with hz1 hz2
        subst hz1 hz2
        clear hyo HF
        go_wp2_with fail
        refine bodyPost_ret (v := .tuple #[.agg #[.int .i64 y.off, .int .i64 y.id, .string y.key, .string y.body], .bool true]) (by simp [results, Try.results69, go_sem, r0, r1, r2, r3]) rfl ⟨by rw [HY.out], ?_⟩
        repeat (first | (with_reducible exact HB.out) | (with_reducible exact Below.refl _ _) | (with_reducible apply Below.drew) | (with_reducible apply below_alloc) | ((with_reducible refine Below.alloc ?_ ?_ _); rotate_left; focus (first | (simp; done) | (simp; omega) | omega)) | ((with_reducible refine Below.setCell ?_ ?_ _); rotate_left; focus (first | (simp; done) | (simp; omega) | omega)))
      · have hd : (y.off == o) = false := by simpa using hyo
        have HYO := Lib.hid hyo
        clear hyo
        go_wp2_with fail
        go_roundg (n - (k + 1))
        case measure => omega
        case rel =>
          refine ⟨k + 1, by omega, rfl, by go_num, fun j hj => ?_, HB, HA, HR⟩
          by_cases hjk : j < k
          · exact hall.out j hjk
          · obtain rfl : j = k := by omega
            rw [← HY.out]; exact HYO.out
    · obtain rfl : k = n := by omega
      have hlt' : ¬ (k : Int) < (k : Int) := by omega
      have hz := HF.out
      rw [hasP, find_none (by rw [← HN.out]; exact hall.out)] at hz
      injection hz with hz1 hz2
      subst hz1 hz2
      clear HF
      go_wp2_with fail
      refine bodyPost_ret (v := .tuple #[.agg #[.int .i64 0, .int .i64 0, .string ⟨#[]⟩, .string ⟨#[]⟩], .bool false]) (by simp [results, Try.results69, go_sem, r0, r1, r2, r3]) rfl ⟨rfl, ?_⟩
      repeat (first | (with_reducible exact HB.out) | (with_reducible exact Below.refl _ _) | (with_reducible apply Below.drew) | (with_reducible apply below_alloc) | ((with_reducible refine Below.alloc ?_ ?_ _); rotate_left; focus (first | (simp; done) | (simp; omega) | omega)) | ((with_reducible refine Below.setCell ?_ ?_ _); rotate_left; focus (first | (simp; done) | (simp; omega) | omega)))

set_option maxHeartbeats 2000000 in
set_option maxRecDepth 100000 in
theorem refFetch_any {v : Value} {t : Top} {w : World} {x : Ent} {n : Int} (o : Int) (h : TopR w v t) (hf : fetchP t o = (x, n)) :
    Calls Try.prog 37 #[v, .int .i64 o] w (EntEnd x n w) := by
  have T := Lib.hid h
  obtain ⟨a, cap, rfl, hs⟩ := h
  obtain ⟨z, hz⟩ : ∃ z, z = decide t.may := ⟨_, rfl⟩
  have M : ∀ (w' : World), TopR w' (.agg #[.int .i64 t.base, .int .i64 t.next, .int .i64 t.mark, .slice a t.ents.length cap]) t → Calls Try.prog 68 #[.agg #[.int .i64 t.base, .int .i64 t.next, .int .i64 t.mark, .slice a t.ents.length cap]] w' fun e w'' => e = .returned (.bool z) ∧ Below w'.heap.size w' w'' := fun w' h => by rw [hz]; exact may17_any h
  have HM := Lib.hid M
  have HZ := Lib.hid hz
  clear M hz hs
  cases z
  · rw [fetchP, if_neg (of_decide_eq_false HZ.out.symm)] at hf
    cases hf
    go_enter Try.func37, Try.ntmps37
    go_wp2_with fail
    refine Calls.mono (HM.out _ ?_) ?_
    · exact T.out.below (by repeat (first | (with_reducible exact Below.refl _ _) | (with_reducible exact Below.refl _ _) | (with_reducible apply Below.drew) | (with_reducible apply below_alloc) | ((with_reducible refine Below.alloc ?_ ?_ _); rotate_left; focus (first | (simp; done) | (simp; omega) | omega)) | ((with_reducible refine Below.setCell ?_ ?_ _); rotate_left; focus (first | (simp; done) | (simp; omega) | omega))))
    rintro e w2 ⟨rfl, hb⟩
    have HB : Hid (Below w.heap.size w _) := below_step (by repeat (first | (with_reducible exact Below.refl _ _) | (with_reducible exact Below.refl _ _) | (with_reducible apply Below.drew) | (with_reducible apply below_alloc) | ((with_reducible refine Below.alloc ?_ ?_ _); rotate_left; focus (first | (simp; done) | (simp; omega) | omega)) | ((with_reducible refine Below.setCell ?_ ?_ _); rotate_left; focus (first | (simp; done) | (simp; omega) | omega)))) hb
    have R : Blk _ (w.heap.size + 1) _ _ := Blk.step (by repeat (first | ((with_reducible apply Blk.new); focus (first | rfl | (simp; done) | (simp; omega))) | (with_reducible apply Blk.drew) | (with_reducible apply Blk.alloc) | (with_reducible apply Blk.set_) | ((with_reducible apply Blk.far); rotate_left; focus (first | (simp; done) | (simp; omega) | omega)))) hb
    obtain ⟨r0, r1, r2, r3, rz⟩ := cells4 R
    have rl := Blk.lt R
    have HR := Lib.hid R
    clear R
    clear hb
    go_wp2_with fail
    refine bodyPost_ret (v := .tuple #[.agg #[.int .i64 0, .int .i64 0, .string ⟨#[]⟩, .string ⟨#[]⟩], .int .i64 8]) (by simp [results, Try.results37, go_sem, r0, r1, r2, r3]) rfl ⟨rfl, ?_⟩
    repeat (first | (with_reducible exact HB.out) | (with_reducible exact Below.refl _ _) | (with_reducible apply Below.drew) | (with_reducible apply below_alloc) | ((with_reducible refine Below.alloc ?_ ?_ _); rotate_left; focus (first | (simp; done) | (simp; omega) | omega)) | ((with_reducible refine Below.setCell ?_ ?_ _); rotate_left; focus (first | (simp; done) | (simp; omega) | omega)))
  · rw [fetchP, if_pos (of_decide_eq_true HZ.out.symm)] at hf
    by_cases h1 : o < 0
    · rw [if_pos h1] at hf
      cases hf
      go_enter Try.func37, Try.ntmps37
      go_wp2_with fail
      refine Calls.mono (HM.out _ ?_) ?_
      · exact T.out.below (by repeat (first | (with_reducible exact Below.refl _ _) | (with_reducible exact Below.refl _ _) | (with_reducible apply Below.drew) | (with_reducible apply below_alloc) | ((with_reducible refine Below.alloc ?_ ?_ _); rotate_left; focus (first | (simp; done) | (simp; omega) | omega)) | ((with_reducible refine Below.setCell ?_ ?_ _); rotate_left; focus (first | (simp; done) | (simp; omega) | omega))))
      rintro e w2 ⟨rfl, hb⟩
      have HB : Hid (Below w.heap.size w _) := below_step (by repeat (first | (with_reducible exact Below.refl _ _) | (with_reducible exact Below.refl _ _) | (with_reducible apply Below.drew) | (with_reducible apply below_alloc) | ((with_reducible refine Below.alloc ?_ ?_ _); rotate_left; focus (first | (simp; done) | (simp; omega) | omega)) | ((with_reducible refine Below.setCell ?_ ?_ _); rotate_left; focus (first | (simp; done) | (simp; omega) | omega)))) hb
      have R : Blk _ (w.heap.size + 1) _ _ := Blk.step (by repeat (first | ((with_reducible apply Blk.new); focus (first | rfl | (simp; done) | (simp; omega))) | (with_reducible apply Blk.drew) | (with_reducible apply Blk.alloc) | (with_reducible apply Blk.set_) | ((with_reducible apply Blk.far); rotate_left; focus (first | (simp; done) | (simp; omega) | omega)))) hb
      obtain ⟨r0, r1, r2, r3, rz⟩ := cells4 R
      have rl := Blk.lt R
      have HR := Lib.hid R
      clear R
      clear hb
      go_wp2_with fail
      refine bodyPost_ret (v := .tuple #[.agg #[.int .i64 0, .int .i64 0, .string ⟨#[]⟩, .string ⟨#[]⟩], .int .i64 2]) (by simp [results, Try.results37, go_sem, r0, r1, r2, r3]) rfl ⟨rfl, ?_⟩
      repeat (first | (with_reducible exact HB.out) | (with_reducible exact Below.refl _ _) | (with_reducible apply Below.drew) | (with_reducible apply below_alloc) | ((with_reducible refine Below.alloc ?_ ?_ _); rotate_left; focus (first | (simp; done) | (simp; omega) | omega)) | ((with_reducible refine Below.setCell ?_ ?_ _); rotate_left; focus (first | (simp; done) | (simp; omega) | omega)))
    · rw [if_neg h1] at hf
      have h1' : 0 ≤ o := by omega
      by_cases h2 : t.next ≤ o
      · rw [if_pos h2] at hf
        cases hf
        go_enter Try.func37, Try.ntmps37
        go_wp2_with fail
        refine Calls.mono (HM.out _ ?_) ?_
        · exact T.out.below (by repeat (first | (with_reducible exact Below.refl _ _) | (with_reducible exact Below.refl _ _) | (with_reducible apply Below.drew) | (with_reducible apply below_alloc) | ((with_reducible refine Below.alloc ?_ ?_ _); rotate_left; focus (first | (simp; done) | (simp; omega) | omega)) | ((with_reducible refine Below.setCell ?_ ?_ _); rotate_left; focus (first | (simp; done) | (simp; omega) | omega))))
        rintro e w2 ⟨rfl, hb⟩
        have HB : Hid (Below w.heap.size w _) := below_step (by repeat (first | (with_reducible exact Below.refl _ _) | (with_reducible exact Below.refl _ _) | (with_reducible apply Below.drew) | (with_reducible apply below_alloc) | ((with_reducible refine Below.alloc ?_ ?_ _); rotate_left; focus (first | (simp; done) | (simp; omega) | omega)) | ((with_reducible refine Below.setCell ?_ ?_ _); rotate_left; focus (first | (simp; done) | (simp; omega) | omega)))) hb
        have A : Blk _ (w.heap.size) _ _ := Blk.step (by repeat (first | ((with_reducible apply Blk.new); focus (first | rfl | (simp; done) | (simp; omega))) | (with_reducible apply Blk.drew) | (with_reducible apply Blk.alloc) | (with_reducible apply Blk.set_) | ((with_reducible apply Blk.far); rotate_left; focus (first | (simp; done) | (simp; omega) | omega)))) hb
        obtain ⟨a0, a1, a2, a3, az⟩ := cells4 A
        have al := Blk.lt A
        have HA := Lib.hid A
        clear A
        have R : Blk _ (w.heap.size + 1) _ _ := Blk.step (by repeat (first | ((with_reducible apply Blk.new); focus (first | rfl | (simp; done) | (simp; omega))) | (with_reducible apply Blk.drew) | (with_reducible apply Blk.alloc) | (with_reducible apply Blk.set_) | ((with_reducible apply Blk.far); rotate_left; focus (first | (simp; done) | (simp; omega) | omega)))) hb
        obtain ⟨r0, r1, r2, r3, rz⟩ := cells4 R
        have rl := Blk.lt R
        have HR := Lib.hid R
        clear R
        clear hb
        go_wp2_with fail
        refine bodyPost_ret (v := .tuple #[.agg #[.int .i64 0, .int .i64 0, .string ⟨#[]⟩, .string ⟨#[]⟩], .int .i64 170]) (by simp [results, Try.results37, go_sem, r0, r1, r2, r3]) rfl ⟨rfl, ?_⟩
        repeat (first | (with_reducible exact HB.out) | (with_reducible exact Below.refl _ _) | (with_reducible apply Below.drew) | (with_reducible apply below_alloc) | ((with_reducible refine Below.alloc ?_ ?_ _); rotate_left; focus (first | (simp; done) | (simp; omega) | omega)) | ((with_reducible refine Below.setCell ?_ ?_ _); rotate_left; focus (first | (simp; done) | (simp; omega) | omega)))
      · rw [if_neg h2] at hf
        have h2' : o < t.next := by omega
        by_cases h3 : o < t.base
        · rw [if_pos h3] at hf
          cases hf
          go_enter Try.func37, Try.ntmps37
          go_wp2_with fail
          refine Calls.mono (HM.out _ ?_) ?_
          · exact T.out.below (by repeat (first | (with_reducible exact Below.refl _ _) | (with_reducible exact Below.refl _ _) | (with_reducible apply Below.drew) | (with_reducible apply below_alloc) | ((with_reducible refine Below.alloc ?_ ?_ _); rotate_left; focus (first | (simp; done) | (simp; omega) | omega)) | ((with_reducible refine Below.setCell ?_ ?_ _); rotate_left; focus (first | (simp; done) | (simp; omega) | omega))))
          rintro e w2 ⟨rfl, hb⟩
          have HB : Hid (Below w.heap.size w _) := below_step (by repeat (first | (with_reducible exact Below.refl _ _) | (with_reducible exact Below.refl _ _) | (with_reducible apply Below.drew) | (with_reducible apply below_alloc) | ((with_reducible refine Below.alloc ?_ ?_ _); rotate_left; focus (first | (simp; done) | (simp; omega) | omega)) | ((with_reducible refine Below.setCell ?_ ?_ _); rotate_left; focus (first | (simp; done) | (simp; omega) | omega)))) hb
          have A : Blk _ (w.heap.size) _ _ := Blk.step (by repeat (first | ((with_reducible apply Blk.new); focus (first | rfl | (simp; done) | (simp; omega))) | (with_reducible apply Blk.drew) | (with_reducible apply Blk.alloc) | (with_reducible apply Blk.set_) | ((with_reducible apply Blk.far); rotate_left; focus (first | (simp; done) | (simp; omega) | omega)))) hb
          obtain ⟨a0, a1, a2, a3, az⟩ := cells4 A
          have al := Blk.lt A
          have HA := Lib.hid A
          clear A
          have R : Blk _ (w.heap.size + 1) _ _ := Blk.step (by repeat (first | ((with_reducible apply Blk.new); focus (first | rfl | (simp; done) | (simp; omega))) | (with_reducible apply Blk.drew) | (with_reducible apply Blk.alloc) | (with_reducible apply Blk.set_) | ((with_reducible apply Blk.far); rotate_left; focus (first | (simp; done) | (simp; omega) | omega)))) hb
          obtain ⟨r0, r1, r2, r3, rz⟩ := cells4 R
          have rl := Blk.lt R
          have HR := Lib.hid R
          clear R
          clear hb
          go_wp2_with fail
          refine bodyPost_ret (v := .tuple #[.agg #[.int .i64 0, .int .i64 0, .string ⟨#[]⟩, .string ⟨#[]⟩], .int .i64 171]) (by simp [results, Try.results37, go_sem, r0, r1, r2, r3]) rfl ⟨rfl, ?_⟩
          repeat (first | (with_reducible exact HB.out) | (with_reducible exact Below.refl _ _) | (with_reducible apply Below.drew) | (with_reducible apply below_alloc) | ((with_reducible refine Below.alloc ?_ ?_ _); rotate_left; focus (first | (simp; done) | (simp; omega) | omega)) | ((with_reducible refine Below.setCell ?_ ?_ _); rotate_left; focus (first | (simp; done) | (simp; omega) | omega)))
        · rw [if_neg h3] at hf
          obtain ⟨y, q, hyq⟩ : ∃ y q, hasP t o = (y, q) := ⟨_, _, rfl⟩
          have hxn : (q = true ∧ x = y ∧ n = 0) ∨ (q = false ∧ x = default ∧ n = 172) := by
            unfold hasP at hyq
            cases hfi : t.ents.find? (fun x => x.off == o) with
            | none => rw [hfi] at hf hyq; cases hf; cases hyq; exact Or.inr ⟨rfl, rfl, rfl⟩
            | some z => rw [hfi] at hf hyq; cases hf; cases hyq; exact Or.inl ⟨rfl, rfl, rfl⟩
          have HYQ := Lib.hid hyq
          clear hf hyq
          rcases hxn with ⟨rfl, rfl, rfl⟩ | ⟨rfl, rfl, rfl⟩
          all_goals
            go_enter Try.func37, Try.ntmps37
            go_wp2_with fail
            refine Calls.mono (HM.out _ ?_) ?_
            · exact T.out.below (by repeat (first | (with_reducible exact Below.refl _ _) | (with_reducible exact Below.refl _ _) | (with_reducible apply Below.drew) | (with_reducible apply below_alloc) | ((with_reducible refine Below.alloc ?_ ?_ _); rotate_left; focus (first | (simp; done) | (simp; omega) | omega)) | ((with_reducible refine Below.setCell ?_ ?_ _); rotate_left; focus (first | (simp; done) | (simp; omega) | omega))))
            rintro e w2 ⟨rfl, hb⟩
            have HB : Hid (Below w.heap.size w _) := below_step (by repeat (first | (with_reducible exact Below.refl _ _) | (with_reducible exact Below.refl _ _) | (with_reducible apply Below.drew) | (with_reducible apply below_alloc) | ((with_reducible refine Below.alloc ?_ ?_ _); rotate_left; focus (first | (simp; done) | (simp; omega) | omega)) | ((with_reducible refine Below.setCell ?_ ?_ _); rotate_left; focus (first | (simp; done) | (simp; omega) | omega)))) hb
            have A : Blk _ (w.heap.size) _ _ := Blk.step (by repeat (first | ((with_reducible apply Blk.new); focus (first | rfl | (simp; done) | (simp; omega))) | (with_reducible apply Blk.drew) | (with_reducible apply Blk.alloc) | (with_reducible apply Blk.set_) | ((with_reducible apply Blk.far); rotate_left; focus (first | (simp; done) | (simp; omega) | omega)))) hb
            obtain ⟨a0, a1, a2, a3, az⟩ := cells4 A
            have al := Blk.lt A
            have HA := Lib.hid A
            clear A
            have R : Blk _ (w.heap.size + 1) _ _ := Blk.step (by repeat (first | ((with_reducible apply Blk.new); focus (first | rfl | (simp; done) | (simp; omega))) | (with_reducible apply Blk.drew) | (with_reducible apply Blk.alloc) | (with_reducible apply Blk.set_) | ((with_reducible apply Blk.far); rotate_left; focus (first | (simp; done) | (simp; omega) | omega)))) hb
            obtain ⟨r0, r1, r2, r3, rz⟩ := cells4 R
            have rl := Blk.lt R
            have HR := Lib.hid R
            clear R
            replace T : Hid (TopR _ _ _) := topR_step T.out (by repeat (first | (with_reducible exact Below.refl _ _) | (with_reducible exact Below.refl _ _) | (with_reducible apply Below.drew) | (with_reducible apply below_alloc) | ((with_reducible refine Below.alloc ?_ ?_ _); rotate_left; focus (first | (simp; done) | (simp; omega) | omega)) | ((with_reducible refine Below.setCell ?_ ?_ _); rotate_left; focus (first | (simp; done) | (simp; omega) | omega)))) hb
            clear hb
            go_wp2_with fail
            refine Calls.mono (has_any o ?_ HYQ.out) ?_
            · exact T.out.below (by repeat (first | (with_reducible exact Below.refl _ _) | (with_reducible exact Below.refl _ _) | (with_reducible apply Below.drew) | (with_reducible apply below_alloc) | ((with_reducible refine Below.alloc ?_ ?_ _); rotate_left; focus (first | (simp; done) | (simp; omega) | omega)) | ((with_reducible refine Below.setCell ?_ ?_ _); rotate_left; focus (first | (simp; done) | (simp; omega) | omega))))
            rintro e w3 ⟨rfl, hb⟩
            replace HB : Hid (Below w.heap.size w _) := below_step (by repeat (first | (with_reducible exact HB.out) | (with_reducible exact Below.refl _ _) | (with_reducible apply Below.drew) | (with_reducible apply below_alloc) | ((with_reducible refine Below.alloc ?_ ?_ _); rotate_left; focus (first | (simp; done) | (simp; omega) | omega)) | ((with_reducible refine Below.setCell ?_ ?_ _); rotate_left; focus (first | (simp; done) | (simp; omega) | omega)))) hb
            clear r0 r1 r2 r3 rz rl
            replace HR : Hid (Blk _ (w.heap.size + 1) _ _) := Blk.step (by repeat (first | (with_reducible exact HR.out) | ((with_reducible apply Blk.new); focus (first | rfl | (simp; done) | (simp; omega))) | (with_reducible apply Blk.drew) | (with_reducible apply Blk.alloc) | (with_reducible apply Blk.set_) | ((with_reducible apply Blk.far); rotate_left; focus (first | (simp; done) | (simp; omega) | omega)))) hb
            obtain ⟨r0, r1, r2, r3, rz⟩ := cells4 HR.out
            have rl := Blk.lt HR.out
            clear hb
            go_wp2_with fail
          · refine bodyPost_ret (v := .tuple #[.agg #[.int .i64 x.off, .int .i64 x.id, .string x.key, .string x.body], .int .i64 0]) (by simp [results, Try.results37, go_sem, r0, r1, r2, r3, rl]) rfl ⟨rfl, ?_⟩
            repeat (first | (with_reducible exact HB.out) | (with_reducible exact Below.refl _ _) | (with_reducible apply Below.drew) | (with_reducible apply below_alloc) | ((with_reducible refine Below.alloc ?_ ?_ _); rotate_left; focus (first | (simp; done) | (simp; omega) | omega)) | ((with_reducible refine Below.setCell ?_ ?_ _); rotate_left; focus (first | (simp; done) | (simp; omega) | omega)))
          · refine bodyPost_ret (v := .tuple #[.agg #[.int .i64 0, .int .i64 0, .string ⟨#[]⟩, .string ⟨#[]⟩], .int .i64 172]) (by simp [results, Try.results37, go_sem, r0, r1, r2, r3, rl]) rfl ⟨rfl, ?_⟩
            repeat (first | (with_reducible exact HB.out) | (with_reducible exact Below.refl _ _) | (with_reducible apply Below.drew) | (with_reducible apply below_alloc) | ((with_reducible refine Below.alloc ?_ ?_ _); rotate_left; focus (first | (simp; done) | (simp; omega) | omega)) | ((with_reducible refine Below.setCell ?_ ?_ _); rotate_left; focus (first | (simp; done) | (simp; omega) | omega)))
end Go.Proofs.Ytblgmjbajnkcdaa
/-
  The document's Add and Check. No condition but that the topic reads.
-/
namespace Go.Proofs.Ytblgmjbajnkcdaa
open Go.RowKit

set_option maxHeartbeats 4000000 in
set_option maxRecDepth 100000 in
theorem refAdd_any {v : Value} {t u : Top} {w : World} {x y : Int} (id : Int) (k b : ByteArray) (h : TopR w v t) (hf : addP t id k b = (u, x, y)) :
    Calls Try.prog 55 #[v, .int .i64 id, .string k, .string b] w (TopEnd2 u x y w) := by
  obtain ⟨i0, hi, hz0, hz1, hz2⟩ := info_parts info_ent
  have T := Lib.hid h
  obtain ⟨a, cap, rfl, hs⟩ := h
  obtain ⟨z, hz⟩ : ∃ z, z = decide t.may := ⟨_, rfl⟩
  have M : ∀ (w' : World), TopR w' (.agg #[.int .i64 t.base, .int .i64 t.next, .int .i64 t.mark, .slice a t.ents.length cap]) t → Calls Try.prog 68 #[.agg #[.int .i64 t.base, .int .i64 t.next, .int .i64 t.mark, .slice a t.ents.length cap]] w' fun e w'' => e = .returned (.bool z) ∧ Below w'.heap.size w' w'' := fun w' h => by rw [hz]; exact may17_any h
  have HM := Lib.hid M
  have HZ := Lib.hid hz
  clear M hz hs
  cases z
  · rw [addP, if_neg (of_decide_eq_false HZ.out.symm)] at hf
    cases hf
    go_enter Try.func55, Try.ntmps55
    go_wp2_with fail
    refine Calls.mono (HM.out _ ?_) ?_
    · exact T.out.below (by repeat (first | (with_reducible exact Below.refl _ _) | (with_reducible exact Below.refl _ _) | (with_reducible apply Below.drew) | (with_reducible apply below_alloc) | ((with_reducible refine Below.alloc ?_ ?_ _); rotate_left; focus (first | (simp; done) | (simp; omega) | omega)) | ((with_reducible refine Below.setCell ?_ ?_ _); rotate_left; focus (first | (simp; done) | (simp; omega) | omega))))
    rintro e w2 ⟨rfl, hb⟩
    have HB : Hid (Below w.heap.size w _) := below_step (by repeat (first | (with_reducible exact Below.refl _ _) | (with_reducible exact Below.refl _ _) | (with_reducible apply Below.drew) | (with_reducible apply below_alloc) | ((with_reducible refine Below.alloc ?_ ?_ _); rotate_left; focus (first | (simp; done) | (simp; omega) | omega)) | ((with_reducible refine Below.setCell ?_ ?_ _); rotate_left; focus (first | (simp; done) | (simp; omega) | omega)))) hb
    have R : Blk _ (w.heap.size + 1) _ _ := Blk.step (by repeat (first | ((with_reducible apply Blk.new); focus (first | rfl | (simp; done) | (simp; omega))) | (with_reducible apply Blk.drew) | (with_reducible apply Blk.alloc) | (with_reducible apply Blk.set_) | ((with_reducible apply Blk.far); rotate_left; focus (first | (simp; done) | (simp; omega) | omega)))) hb
    obtain ⟨r0, r1, r2, r3, rz⟩ := cells4 R
    have rl := Blk.lt R
    have HR := Lib.hid R
    clear R
    clear hb
    go_wp2_with fail
    refine bodyPost_ret (v := .tuple #[.agg #[.int .i64 0, .int .i64 0, .int .i64 0, .slice none 0 0], .int .i64 0, .int .i64 8]) (by simp [results, Try.results55, go_sem, r0, r1, r2, r3]) rfl (topEnd2_zero _ _ rfl ?_)
    repeat (first | (with_reducible exact HB.out) | (with_reducible exact Below.refl _ _) | (with_reducible apply Below.drew) | (with_reducible apply below_alloc) | ((with_reducible refine Below.alloc ?_ ?_ _); rotate_left; focus (first | (simp; done) | (simp; omega) | omega)) | ((with_reducible refine Below.setCell ?_ ?_ _); rotate_left; focus (first | (simp; done) | (simp; omega) | omega)))
  · have hm : t.may := of_decide_eq_true HZ.out.symm
    rw [addP, if_pos hm] at hf
    have HL := Lib.hid (show t.ents.length ≤ 200 from hm.1.2.2.2.2.2.2)
    have n0 : 0 ≤ t.next := hm.1.1
    have n1 : t.next ≤ 1073741824 := hm.1.2.1
    clear hm
    by_cases h1 : id < 0 ∨ 6291456 ≤ id
    · rw [if_pos h1] at hf
      cases hf
      rcases h1 with h1 | h1
      all_goals
        go_enter Try.func55, Try.ntmps55
        go_wp2_with fail
        refine Calls.mono (HM.out _ ?_) ?_
        · exact T.out.below (by repeat (first | (with_reducible exact Below.refl _ _) | (with_reducible exact Below.refl _ _) | (with_reducible apply Below.drew) | (with_reducible apply below_alloc) | ((with_reducible refine Below.alloc ?_ ?_ _); rotate_left; focus (first | (simp; done) | (simp; omega) | omega)) | ((with_reducible refine Below.setCell ?_ ?_ _); rotate_left; focus (first | (simp; done) | (simp; omega) | omega))))
        rintro e w2 ⟨rfl, hb⟩
        have HB : Hid (Below w.heap.size w _) := below_step (by repeat (first | (with_reducible exact Below.refl _ _) | (with_reducible exact Below.refl _ _) | (with_reducible apply Below.drew) | (with_reducible apply below_alloc) | ((with_reducible refine Below.alloc ?_ ?_ _); rotate_left; focus (first | (simp; done) | (simp; omega) | omega)) | ((with_reducible refine Below.setCell ?_ ?_ _); rotate_left; focus (first | (simp; done) | (simp; omega) | omega)))) hb
        have R : Blk _ (w.heap.size + 1) _ _ := Blk.step (by repeat (first | ((with_reducible apply Blk.new); focus (first | rfl | (simp; done) | (simp; omega))) | (with_reducible apply Blk.drew) | (with_reducible apply Blk.alloc) | (with_reducible apply Blk.set_) | ((with_reducible apply Blk.far); rotate_left; focus (first | (simp; done) | (simp; omega) | omega)))) hb
        obtain ⟨r0, r1, r2, r3, rz⟩ := cells4 R
        have rl := Blk.lt R
        have HR := Lib.hid R
        clear R
        clear hb
        go_wp2_with fail
        refine bodyPost_ret (v := .tuple #[.agg #[.int .i64 0, .int .i64 0, .int .i64 0, .slice none 0 0], .int .i64 0, .int .i64 2]) (by simp [results, Try.results55, go_sem, r0, r1, r2, r3]) rfl (topEnd2_zero _ _ rfl ?_)
        repeat (first | (with_reducible exact HB.out) | (with_reducible exact Below.refl _ _) | (with_reducible apply Below.drew) | (with_reducible apply below_alloc) | ((with_reducible refine Below.alloc ?_ ?_ _); rotate_left; focus (first | (simp; done) | (simp; omega) | omega)) | ((with_reducible refine Below.setCell ?_ ?_ _); rotate_left; focus (first | (simp; done) | (simp; omega) | omega)))
    · rw [if_neg h1] at hf
      have h1a : 0 ≤ id := by omega
      have h1b : id < 6291456 := by omega
      clear h1
      by_cases h2 : 16 < k.size ∨ 64 < b.size
      · rw [if_pos h2] at hf
        cases hf
        have h3 : (16 : Int) < (k.size : Int) ∨ ((k.size : Int) ≤ 16 ∧ (64 : Int) < (b.size : Int)) := by omega
        clear h2
        rcases h3 with h3 | ⟨h3, h4⟩
        all_goals
          go_enter Try.func55, Try.ntmps55
          go_wp2_with fail
          refine Calls.mono (HM.out _ ?_) ?_
          · exact T.out.below (by repeat (first | (with_reducible exact Below.refl _ _) | (with_reducible exact Below.refl _ _) | (with_reducible apply Below.drew) | (with_reducible apply below_alloc) | ((with_reducible refine Below.alloc ?_ ?_ _); rotate_left; focus (first | (simp; done) | (simp; omega) | omega)) | ((with_reducible refine Below.setCell ?_ ?_ _); rotate_left; focus (first | (simp; done) | (simp; omega) | omega))))
          rintro e w2 ⟨rfl, hb⟩
          have HB : Hid (Below w.heap.size w _) := below_step (by repeat (first | (with_reducible exact Below.refl _ _) | (with_reducible exact Below.refl _ _) | (with_reducible apply Below.drew) | (with_reducible apply below_alloc) | ((with_reducible refine Below.alloc ?_ ?_ _); rotate_left; focus (first | (simp; done) | (simp; omega) | omega)) | ((with_reducible refine Below.setCell ?_ ?_ _); rotate_left; focus (first | (simp; done) | (simp; omega) | omega)))) hb
          have R : Blk _ (w.heap.size + 1) _ _ := Blk.step (by repeat (first | ((with_reducible apply Blk.new); focus (first | rfl | (simp; done) | (simp; omega))) | (with_reducible apply Blk.drew) | (with_reducible apply Blk.alloc) | (with_reducible apply Blk.set_) | ((with_reducible apply Blk.far); rotate_left; focus (first | (simp; done) | (simp; omega) | omega)))) hb
          obtain ⟨r0, r1, r2, r3, rz⟩ := cells4 R
          have rl := Blk.lt R
          have HR := Lib.hid R
          clear R
          clear hb
          go_wp2_with fail
          refine bodyPost_ret (v := .tuple #[.agg #[.int .i64 0, .int .i64 0, .int .i64 0, .slice none 0 0], .int .i64 0, .int .i64 3]) (by simp [results, Try.results55, go_sem, r0, r1, r2, r3]) rfl (topEnd2_zero _ _ rfl ?_)
          repeat (first | (with_reducible exact HB.out) | (with_reducible exact Below.refl _ _) | (with_reducible apply Below.drew) | (with_reducible apply below_alloc) | ((with_reducible refine Below.alloc ?_ ?_ _); rotate_left; focus (first | (simp; done) | (simp; omega) | omega)) | ((with_reducible refine Below.setCell ?_ ?_ _); rotate_left; focus (first | (simp; done) | (simp; omega) | omega)))
      · rw [if_neg h2] at hf
        have h2a : (k.size : Int) ≤ 16 := by omega
        have h2b : (b.size : Int) ≤ 64 := by omega
        clear h2
        by_cases h3 : t.next = 1073741824 ∨ t.ents.length = 200
        · rw [if_pos h3] at hf
          cases hf
          have h4 : (t.next == 1073741824) = true ∨ ((t.next == 1073741824) = false ∧ ((t.ents.length : Int) == 200) = true) := by
            by_cases h5 : t.next = 1073741824
            · exact Or.inl (by simpa using h5)
            · exact Or.inr ⟨by simpa using h5, by have := h3.resolve_left h5; simp; omega⟩
          clear h3
          rcases h4 with h4 | ⟨h4, h5⟩
          all_goals
            go_enter Try.func55, Try.ntmps55
            go_wp2_with fail
            refine Calls.mono (HM.out _ ?_) ?_
            · exact T.out.below (by repeat (first | (with_reducible exact Below.refl _ _) | (with_reducible exact Below.refl _ _) | (with_reducible apply Below.drew) | (with_reducible apply below_alloc) | ((with_reducible refine Below.alloc ?_ ?_ _); rotate_left; focus (first | (simp; done) | (simp; omega) | omega)) | ((with_reducible refine Below.setCell ?_ ?_ _); rotate_left; focus (first | (simp; done) | (simp; omega) | omega))))
            rintro e w2 ⟨rfl, hb⟩
            have HB : Hid (Below w.heap.size w _) := below_step (by repeat (first | (with_reducible exact Below.refl _ _) | (with_reducible exact Below.refl _ _) | (with_reducible apply Below.drew) | (with_reducible apply below_alloc) | ((with_reducible refine Below.alloc ?_ ?_ _); rotate_left; focus (first | (simp; done) | (simp; omega) | omega)) | ((with_reducible refine Below.setCell ?_ ?_ _); rotate_left; focus (first | (simp; done) | (simp; omega) | omega)))) hb
            have A : Blk _ (w.heap.size) _ _ := Blk.step (by repeat (first | ((with_reducible apply Blk.new); focus (first | rfl | (simp; done) | (simp; omega))) | (with_reducible apply Blk.drew) | (with_reducible apply Blk.alloc) | (with_reducible apply Blk.set_) | ((with_reducible apply Blk.far); rotate_left; focus (first | (simp; done) | (simp; omega) | omega)))) hb
            obtain ⟨a0, a1, a2, a3, az⟩ := cells4 A
            have al := Blk.lt A
            have HA := Lib.hid A
            clear A
            have R : Blk _ (w.heap.size + 1) _ _ := Blk.step (by repeat (first | ((with_reducible apply Blk.new); focus (first | rfl | (simp; done) | (simp; omega))) | (with_reducible apply Blk.drew) | (with_reducible apply Blk.alloc) | (with_reducible apply Blk.set_) | ((with_reducible apply Blk.far); rotate_left; focus (first | (simp; done) | (simp; omega) | omega)))) hb
            obtain ⟨r0, r1, r2, r3, rz⟩ := cells4 R
            have rl := Blk.lt R
            have HR := Lib.hid R
            clear R
            clear hb
            go_wp2_with fail
            refine bodyPost_ret (v := .tuple #[.agg #[.int .i64 0, .int .i64 0, .int .i64 0, .slice none 0 0], .int .i64 0, .int .i64 9]) (by simp [results, Try.results55, go_sem, r0, r1, r2, r3]) rfl (topEnd2_zero _ _ rfl ?_)
            repeat (first | (with_reducible exact HB.out) | (with_reducible exact Below.refl _ _) | (with_reducible apply Below.drew) | (with_reducible apply below_alloc) | ((with_reducible refine Below.alloc ?_ ?_ _); rotate_left; focus (first | (simp; done) | (simp; omega) | omega)) | ((with_reducible refine Below.setCell ?_ ?_ _); rotate_left; focus (first | (simp; done) | (simp; omega) | omega)))
        · rw [if_neg h3] at hf
          cases hf
          have h4 : (t.next == 1073741824) = false := by simp; omega
          have h5 : ((t.ents.length : Int) == 200) = false := by simp; omega
          have HL2 := Lib.hid (show t.ents.length ≤ 1000000 by have := HL.out; omega)
          have n2 : t.next < 1073741824 := by omega
          clear h3
          go_enter Try.func55, Try.ntmps55
          go_wp2_with fail
          refine Calls.mono (HM.out _ ?_) ?_
          · exact T.out.below (by repeat (first | (with_reducible exact Below.refl _ _) | (with_reducible exact Below.refl _ _) | (with_reducible apply Below.drew) | (with_reducible apply below_alloc) | ((with_reducible refine Below.alloc ?_ ?_ _); rotate_left; focus (first | (simp; done) | (simp; omega) | omega)) | ((with_reducible refine Below.setCell ?_ ?_ _); rotate_left; focus (first | (simp; done) | (simp; omega) | omega))))
          rintro e w2 ⟨rfl, hb⟩
          have HB : Hid (Below w.heap.size w _) := below_step (by repeat (first | (with_reducible exact Below.refl _ _) | (with_reducible exact Below.refl _ _) | (with_reducible apply Below.drew) | (with_reducible apply below_alloc) | ((with_reducible refine Below.alloc ?_ ?_ _); rotate_left; focus (first | (simp; done) | (simp; omega) | omega)) | ((with_reducible refine Below.setCell ?_ ?_ _); rotate_left; focus (first | (simp; done) | (simp; omega) | omega)))) hb
          have A : Blk _ (w.heap.size) _ _ := Blk.step (by repeat (first | ((with_reducible apply Blk.new); focus (first | rfl | (simp; done) | (simp; omega))) | (with_reducible apply Blk.drew) | (with_reducible apply Blk.alloc) | (with_reducible apply Blk.set_) | ((with_reducible apply Blk.far); rotate_left; focus (first | (simp; done) | (simp; omega) | omega)))) hb
          obtain ⟨a0, a1, a2, a3, az⟩ := cells4 A
          have al := Blk.lt A
          have HA := Lib.hid A
          clear A
          have R : Blk _ (w.heap.size + 1) _ _ := Blk.step (by repeat (first | ((with_reducible apply Blk.new); focus (first | rfl | (simp; done) | (simp; omega))) | (with_reducible apply Blk.drew) | (with_reducible apply Blk.alloc) | (with_reducible apply Blk.set_) | ((with_reducible apply Blk.far); rotate_left; focus (first | (simp; done) | (simp; omega) | omega)))) hb
          obtain ⟨r0, r1, r2, r3, rz⟩ := cells4 R
          have rl := Blk.lt R
          have HR := Lib.hid R
          clear R
          replace T : Hid (TopR _ _ _) := topR_step T.out (by repeat (first | (with_reducible exact Below.refl _ _) | (with_reducible exact Below.refl _ _) | (with_reducible apply Below.drew) | (with_reducible apply below_alloc) | ((with_reducible refine Below.alloc ?_ ?_ _); rotate_left; focus (first | (simp; done) | (simp; omega) | omega)) | ((with_reducible refine Below.setCell ?_ ?_ _); rotate_left; focus (first | (simp; done) | (simp; omega) | omega)))) hb
          clear hb
          go_wp2_with fail
          refine Calls.mono (refTwin17_any ?_ HL2.out) ?_
          · exact T.out.below (by repeat (first | (with_reducible exact Below.refl _ _) | (with_reducible exact Below.refl _ _) | (with_reducible apply Below.drew) | (with_reducible apply below_alloc) | ((with_reducible refine Below.alloc ?_ ?_ _); rotate_left; focus (first | (simp; done) | (simp; omega) | omega)) | ((with_reducible refine Below.setCell ?_ ?_ _); rotate_left; focus (first | (simp; done) | (simp; omega) | omega))))
          rintro e w3 ⟨a4, cap4, rfl, o4, hb⟩
          have s4 : w.heap.size + 1 < w2.heap.size := rl
          replace HB : Hid (Below w.heap.size w _) := below_step (by repeat (first | (with_reducible exact HB.out) | (with_reducible exact Below.refl _ _) | (with_reducible apply Below.drew) | (with_reducible apply below_alloc) | ((with_reducible refine Below.alloc ?_ ?_ _); rotate_left; focus (first | (simp; done) | (simp; omega) | omega)) | ((with_reducible refine Below.setCell ?_ ?_ _); rotate_left; focus (first | (simp; done) | (simp; omega) | omega)))) hb
          clear a0 a1 a2 a3 az al
          replace HA : Hid (Blk _ (w.heap.size) _ _) := Blk.step (by repeat (first | (with_reducible exact HA.out) | ((with_reducible apply Blk.new); focus (first | rfl | (simp; done) | (simp; omega))) | (with_reducible apply Blk.drew) | (with_reducible apply Blk.alloc) | (with_reducible apply Blk.set_) | ((with_reducible apply Blk.far); rotate_left; focus (first | (simp; done) | (simp; omega) | omega)))) hb
          obtain ⟨a0, a1, a2, a3, az⟩ := cells4 HA.out
          have al := Blk.lt HA.out
          clear r0 r1 r2 r3 rz rl
          replace HR : Hid (Blk _ (w.heap.size + 1) _ _) := Blk.step (by repeat (first | (with_reducible exact HR.out) | ((with_reducible apply Blk.new); focus (first | rfl | (simp; done) | (simp; omega))) | (with_reducible apply Blk.drew) | (with_reducible apply Blk.alloc) | (with_reducible apply Blk.set_) | ((with_reducible apply Blk.far); rotate_left; focus (first | (simp; done) | (simp; omega) | omega)))) hb
          obtain ⟨r0, r1, r2, r3, rz⟩ := cells4 HR.out
          have rl := Blk.lt HR.out
          have O4 := Lib.hid o4
          have s5 : w2.heap.size ≤ w3.heap.size := hb.size
          clear hb o4 h4 h5
          go_wp2_with (at_builtin; go_must (refine wpList_append_own _ rfl _ _ 70 rfl w2.heap.size 29 i0 _ 4 48 Try.underlying70 hi hz0 hz1 hz2 rfl (by decide) _ _ _ rfl (own_alloc (own_alloc O4.out)) ⟨w3.heap.size + 1, 0, none⟩ 1 1 (entCells ⟨t.next, id, k, b⟩) rfl rfl ?_ (by intro v hv; simp [entCells] at hv; rcases hv with rfl | rfl | rfl | rfl <;> rfl) (by have := HL.out; unfold maxLen; omega) (by have := HL.out; omega) (by simp; omega) ?_))
          · exact news_ent ⟨t.next, id, k, b⟩ (by simp)
          · intro v' w5 hown hgrow _
            have OW : OwnE w5 w2.heap.size v' (t.ents ++ [⟨t.next, id, k, b⟩]) := by
              show w5.ownsRow _ _ _ _ _ _
              simpa [List.flatMap_append] using hown
            obtain ⟨a5, cap5, hv5⟩ := own_shape OW
            subst hv5
            have O5 := Lib.hid OW
            have HAA : Hid (Blk _ (w.heap.size) _ _) := Blk.grown (by repeat (first | (with_reducible exact HA.out) | ((with_reducible apply Blk.new); focus (first | rfl | (simp; done) | (simp; omega))) | (with_reducible apply Blk.drew) | (with_reducible apply Blk.alloc) | (with_reducible apply Blk.set_) | ((with_reducible apply Blk.far); rotate_left; focus (first | (simp; done) | (simp; omega) | omega)))) hgrow (own_ne O4.out (by omega))
            obtain ⟨aa0, aa1, aa2, aa3, aaz⟩ := cells4 HAA.out
            have aal := Blk.lt HAA.out
            have HRR : Hid (Blk _ (w.heap.size + 1) _ _) := Blk.grown (by repeat (first | (with_reducible exact HR.out) | ((with_reducible apply Blk.new); focus (first | rfl | (simp; done) | (simp; omega))) | (with_reducible apply Blk.drew) | (with_reducible apply Blk.alloc) | (with_reducible apply Blk.set_) | ((with_reducible apply Blk.far); rotate_left; focus (first | (simp; done) | (simp; omega) | omega)))) hgrow (own_ne O4.out (by omega))
            obtain ⟨rr0, rr1, rr2, rr3, rrz⟩ := cells4 HRR.out
            have rrl := Blk.lt HRR.out
            have own_lt : (Value.slice a4 t.ents.length cap4).ownBlock ≠ some w3.heap.size := fun e => by have := (O4.out.lt _ e).2; omega
            have HTT : Hid (Blk w5 w3.heap.size 72 [.int .i64 t.base, .int .i64 t.next, .int .i64 t.mark, .slice a4 t.ents.length cap4]) := Blk.grown (Blk.alloc (Blk.new rfl) _) hgrow own_lt
            obtain ⟨tt0, tt1, tt2, tt3, ttz⟩ := cells4 HTT.out
            have ttl := Blk.lt HTT.out
            have HB5 : Hid (Below w.heap.size w w5) := below_grown (by repeat (first | (with_reducible exact HB.out) | (with_reducible exact Below.refl _ _) | (with_reducible apply Below.drew) | (with_reducible apply below_alloc) | ((with_reducible refine Below.alloc ?_ ?_ _); rotate_left; focus (first | (simp; done) | (simp; omega) | omega)) | ((with_reducible refine Below.setCell ?_ ?_ _); rotate_left; focus (first | (simp; done) | (simp; omega) | omega)))) hgrow (own_alloc (own_alloc O4.out)) (by omega)
            have d1 : ¬ w3.heap.size = w.heap.size + 1 := by omega
            have d2 : ¬ w.heap.size + 1 = w3.heap.size := by omega
            have d3 : ¬ w3.heap.size = w.heap.size := by omega
            have d4 : ¬ w.heap.size = w3.heap.size := by omega
            have wn : IntKind.i64.wrap (t.next + 1) = t.next + 1 := IntWalk.i64_in _ (by omega)
            clear hown OW hgrow a0 a1 a2 a3 az r0 r1 r2 r3 rz own_lt
            go_wp2_with fail
            refine at_code (fun W => Blk W w3.heap.size 72 [.int .i64 t.base, .int .i64 (t.next + 1), .int .i64 t.mark, .slice a5 (t.ents ++ [(⟨t.next, id, k, b⟩ : Ent)]).length cap5] ∧ Blk W (w.heap.size + 1) 72 [.int .i64 0, .int .i64 0, .int .i64 0, .slice none 0 0] ∧ Blk W w.heap.size 72 [.int .i64 t.base, .int .i64 t.next, .int .i64 t.mark, .slice a t.ents.length cap] ∧ Below w.heap.size w W ∧ OwnE W w2.heap.size (.slice a5 (t.ents ++ [(⟨t.next, id, k, b⟩ : Ent)]).length cap5) (t.ents ++ [⟨t.next, id, k, b⟩])) ⟨?_, ?_, ?_, ?_, ?_⟩ ?_
            · have h := (HTT.out.set_ 3 (.slice a5 (t.ents ++ [(⟨t.next, id, k, b⟩ : Ent)]).length cap5)).set_ 1 (.int .i64 (t.next + 1))
              simpa using h
            · repeat (first | (with_reducible exact HRR.out) | ((with_reducible apply Blk.new); focus (first | rfl | (simp; done) | (simp; omega))) | (with_reducible apply Blk.drew) | (with_reducible apply Blk.alloc) | (with_reducible apply Blk.set_) | ((with_reducible apply Blk.far); rotate_left; focus (first | (simp; done) | (simp; omega) | omega)))
            · repeat (first | (with_reducible exact HAA.out) | ((with_reducible apply Blk.new); focus (first | rfl | (simp; done) | (simp; omega))) | (with_reducible apply Blk.drew) | (with_reducible apply Blk.alloc) | (with_reducible apply Blk.set_) | ((with_reducible apply Blk.far); rotate_left; focus (first | (simp; done) | (simp; omega) | omega)))
            · repeat (first | (with_reducible exact HB5.out) | (with_reducible exact Below.refl _ _) | (with_reducible apply Below.drew) | (with_reducible apply below_alloc) | ((with_reducible refine Below.alloc ?_ ?_ _); rotate_left; focus (first | (simp; done) | (simp; omega) | omega)) | ((with_reducible refine Below.setCell ?_ ?_ _); rotate_left; focus (first | (simp; done) | (simp; omega) | omega)))
            · have hne := own_blk_ne O5.out HTT.out (by decide)
              rw [List.length_append, List.length_singleton] at hne ⊢
              have h := O5.out
              rw [List.length_append, List.length_singleton] at h
              exact own_set' (own_set' h hne) hne
            clear HAA HRR HTT HB5 O5 HA HR HB O4
            rintro W ⟨q1, q2, q3, q4, q5⟩
            obtain ⟨a0, a1, a2, a3, az⟩ := cells4 q1
            obtain ⟨r0, r1, r2, r3, rz⟩ := cells4 q2
            have x1 := q3.cell 1
            simp only [List.getElem?_cons_zero, List.getElem?_cons_succ] at x1
            have Q4 := Lib.hid q4
            have Q5 := Lib.hid q5
            clear q1 q2 q3 q4 q5 aa0 aa1 aa2 aa3 aaz rr0 rr1 rr2 rr3 rrz tt0 tt1 tt2 tt3 ttz T
            go_region_held3 (fun W => W.cell? ⟨w3.heap.size, 0, none⟩ = some (.int .i64 t.base) ∧ W.cell? ⟨w3.heap.size, 1, none⟩ = some (.int .i64 (t.next + 1)) ∧ W.cell? ⟨w3.heap.size, 2, none⟩ = some (.int .i64 t.mark) ∧
                W.cell? ⟨w3.heap.size, 3, none⟩ = some (.slice a5 (t.ents ++ [(⟨t.next, id, k, b⟩ : Ent)]).length cap5) ∧ W.cell? ⟨w.heap.size, 1, none⟩ = some (.int .i64 t.next)) (go_keep) (fail)
            go_wp2_with fail
            refine bodyPost_ret (v := .tuple #[.agg #[.int .i64 t.base, .int .i64 (t.next + 1), .int .i64 t.mark, .slice a5 (t.ents ++ [(⟨t.next, id, k, b⟩ : Ent)]).length cap5], .int .i64 t.next, .int .i64 0]) (by simp [results, Try.results55, go_sem, r0, r1, r2, r3]) rfl ⟨a5, cap5, rfl, ?_, ?_⟩
            · refine own_base (B := w2.heap.size) ?_ (by omega)
              repeat (first | (with_reducible exact Q5.out) | (with_reducible apply own_drew) | (with_reducible apply own_alloc) | ((with_reducible apply own_set); rotate_left; focus (first | (simp; done) | (simp; omega) | omega)))
            · repeat (first | (with_reducible exact Q4.out) | (with_reducible exact Below.refl _ _) | (with_reducible apply Below.drew) | (with_reducible apply below_alloc) | ((with_reducible refine Below.alloc ?_ ?_ _); rotate_left; focus (first | (simp; done) | (simp; omega) | omega)) | ((with_reducible refine Below.setCell ?_ ?_ _); rotate_left; focus (first | (simp; done) | (simp; omega) | omega)))
end Go.Proofs.Ytblgmjbajnkcdaa
