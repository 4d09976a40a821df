/-
  The document's Last and Latest. No condition but that the entries read.
-/
import Derived.Test.YtolgkadoplalnaaLatP
import Derived.Test.YtolgkadoplalnaaMay17
import Derived.Test.YtolgkadoplalnaaOver
import Derived.Deep.LoopGhost
namespace Go.Proofs.Ytolgkadoplalnaa
open Go.RowKit

/-- An entry and whether there is one. -/
def LastEnd (x : Ent) (b : Bool) (w : World) (e : Ending) (w' : World) : Prop :=
  e = .returned (.tuple #[.agg #[.int .i64 x.off, .int .i64 x.id, .string x.key, .string x.body], .bool b]) ∧ Below w.heap.size w w'

set_option maxHeartbeats 2000000 in
set_option maxRecDepth 100000 in
theorem last_any {v : Value} {l : List Ent} {w : World} {x : Ent} {b : Bool} (key : ByteArray) (below : Int) (h : SliceR w v 4 entCells l) (hl : l.length ≤ 1000000) (hf : lastP l key below = (x, b)) :
    Calls Try.prog 50 #[v, .string key, .int .i64 below] w (LastEnd x b w) := by
  obtain ⟨a, cap, hv, _⟩ := id h
  subst hv
  obtain ⟨⟨_, hcap⟩, ⟨hmax, _⟩, hd⟩ := h.ents
  have HD := Lib.hid hd
  have HF := Lib.hid hf
  obtain ⟨n, hn⟩ : ∃ n, n = l.length := ⟨_, rfl⟩
  rw [← hn] at HD hcap hl ⊢
  have HN := Lib.hid hn
  have hn' : (n : Int) ≤ 1000000 := by omega
  clear hd hf h hn hmax
  go_enter Try.func50, Try.ntmps50
  go_wp2_with fail
  go_loopg [9, 10] n (fun g is i wr => ∃ (k : Nat) (y : Ent) (q : Bool), k ≤ n ∧ g = n - k ∧ i = .int .i64 (k : Int) ∧ is = .bool q ∧ Hid (lastP (l.take k) key below = (y, q)) ∧ Hid (Below w.heap.size w wr) ∧
    Hid (Blk wr w.heap.size 38 [.int .i64 0, .int .i64 0, .string ⟨#[]⟩, .string ⟨#[]⟩]) ∧ Hid (Blk wr (w.heap.size + 1) 38 [.int .i64 y.off, .int .i64 y.id, .string y.key, .string y.body]))
  case atStart =>
    refine ⟨0, default, false, Nat.zero_le _, rfl, rfl, rfl, rfl, ?_, ?_, ?_⟩
    · show Below _ _ _
      repeat (first | (with_reducible exact Below.refl _ _) | (with_reducible exact Below.refl _ _) | (with_reducible apply Below.drew) | (with_reducible apply below_alloc) | ((with_reducible refine Below.alloc ?_ ?_ _); rotate_left; focus (first | (simp; done) | (simp; omega) | omega)) | ((with_reducible refine Below.setCell ?_ ?_ _); rotate_left; focus (first | (simp; done) | (simp; omega) | omega)))
    · show Blk _ _ _ _
      exact Blk.alloc (Blk.new rfl) _
    · show Blk _ _ _ _
      exact Blk.new (by simp)
  case round =>
    obtain ⟨k, y, q, hk, rfl, rfl, rfl, hy, HB, HR, HY⟩ := hrel
    obtain ⟨r0, r1, r2, r3, rz⟩ := cells4 HR.out
    obtain ⟨y0, y1, y2, y3, yz⟩ := cells4 HY.out
    have yl := HY.out.lt
    by_cases hlt : k < n
    · have hk0 : (0 : Int) ≤ (k : Int) := by omega
      have hk1 : (k : Int) < (n : Int) := by omega
      obtain ⟨bb, off, ha, hcc⟩ := HD.out (by omega)
      subst ha
      have cc := hcc k (by rw [← HN.out]; exact hlt)
      have hbb : bb < w.heap.size := World.block_lt_of_cell? w _ cc.1.1.1
      clear hcc
      obtain ⟨z, hz⟩ : ∃ z, z = l.getD k default := ⟨_, rfl⟩
      rw [← hz] at cc
      have c0 := keep HB.out cc.1.1.1
      have c1 := keep HB.out cc.1.1.2
      have c2 := keep HB.out cc.1.2
      have c3 := keep HB.out cc.2
      have HT := Lib.hid (show lastP (l.take (k + 1)) key below = if wantE key below z then (z, true) else (y, q) by
        rw [take_succ_ent (by rw [← HN.out]; exact hlt), ← hz, last_snoc, hy.out])
      obtain ⟨e, he⟩ : ∃ e, e = (z.key.toList == key.toList) := ⟨_, rfl⟩
      have he' := he.symm
      have HE := Lib.hid he
      clear cc hz he
      cases e
      · go_wp2_with fail
        go_roundg (n - (k + 1))
        case measure => omega
        case rel =>
          refine ⟨k + 1, y, q, by omega, rfl, by go_num, rfl, ?_, HB, HR, HY⟩
          have hw : wantE key below z = false := by rw [wantE, ← HE.out]; rfl
          have := HT.out
          rw [hw] at this
          exact this
      · by_cases hb : z.off < below
        · have HBB := Lib.hid hb
          go_wp2_with fail
          go_roundg (n - (k + 1))
          case measure => omega
          case rel =>
            refine ⟨k + 1, z, true, by omega, rfl, by go_num, rfl, ?_, ?_, ?_, ?_⟩
            · have hw : wantE key below z = true := by rw [wantE, ← HE.out]; simpa using HBB.out
              have := HT.out
              rw [hw] at this
              exact this
            · show Below _ _ _
              repeat (first | (with_reducible exact HB.out) | (with_reducible exact Below.refl _ _) | (with_reducible apply Below.drew) | (with_reducible apply below_alloc) | ((with_reducible refine Below.alloc ?_ ?_ _); rotate_left; focus (first | (simp; done) | (simp; omega) | omega)) | ((with_reducible refine Below.setCell ?_ ?_ _); rotate_left; focus (first | (simp; done) | (simp; omega) | omega)))
            · show Blk _ _ _ _
              repeat (first | (with_reducible exact HR.out) | ((with_reducible apply Blk.new); focus (first | rfl | (simp; done) | (simp; omega))) | (with_reducible apply Blk.drew) | (with_reducible apply Blk.alloc) | (with_reducible apply Blk.set_) | ((with_reducible apply Blk.far); rotate_left; focus (first | (simp; done) | (simp; omega) | omega)))
            · have h0 := (((HY.out.set_ 0 (.int .i64 z.off)).set_ 1 (.int .i64 z.id)).set_ 2 (.string z.key)).set_ 3 (.string z.body)
              simp only [List.set_cons_zero, List.set_cons_succ] at h0
              exact h0
        · have HBB := Lib.hid hb
          go_wp2_with fail
          go_roundg (n - (k + 1))
          case measure => omega
          case rel =>
            refine ⟨k + 1, y, q, by omega, rfl, by go_num, rfl, ?_, HB, HR, HY⟩
            have hw : wantE key below z = false := by
              rw [wantE, ← HE.out]
              have := HBB.out
              simp
              omega
            have := HT.out
            rw [hw] at this
            exact this
    · obtain rfl : k = n := by omega
      have hlt' : ¬ (k : Int) < (k : Int) := by omega
      have hy2 := hy.out
      rw [show l.take k = l by rw [HN.out]; exact List.take_length, HF.out] at hy2
      injection hy2 with h1 h2
      subst h1 h2
      go_wp2_with fail
      refine bodyPost_ret (v := .tuple #[.agg #[.int .i64 x.off, .int .i64 x.id, .string x.key, .string x.body], .bool b]) (by simp [results, Try.results50, go_sem, r0, r1, r2, r3]) rfl ⟨rfl, ?_⟩
      repeat (first | (with_reducible exact HB.out) | (with_reducible exact Below.refl _ _) | (with_reducible apply Below.drew) | (with_reducible apply below_alloc) | ((with_reducible refine Below.alloc ?_ ?_ _); rotate_left; focus (first | (simp; done) | (simp; omega) | omega)) | ((with_reducible refine Below.setCell ?_ ?_ _); rotate_left; focus (first | (simp; done) | (simp; omega) | omega)))

set_option maxHeartbeats 2000000 in
set_option maxRecDepth 100000 in
theorem refLatest_any {v : Value} {t : Top} {w : World} {x : Ent} {b : Bool} {n : Int} (key : ByteArray) (below : Int) (h : TopR w v t) (hf : latestP t key below = (x, b, n)) :
    Calls Try.prog 26 #[v, .string key, .int .i64 below] w fun e w' => (e = .returned (.tuple #[.agg #[.int .i64 x.off, .int .i64 x.id, .string x.key, .string x.body], .bool b, .int .i64 n]) ∧ Below w.heap.size w w') := by
  have T := Lib.hid h
  obtain ⟨a, cap, rfl, hs⟩ := h
  have HS := Lib.hid hs
  obtain ⟨z, hz⟩ : ∃ z, z = decide t.may := ⟨_, rfl⟩
  have M : ∀ (w' : World), TopR w' (.agg #[.int .i64 t.base, .int .i64 t.next, .int .i64 t.mark, .slice a t.ents.length cap]) t → Calls Try.prog 45 #[.agg #[.int .i64 t.base, .int .i64 t.next, .int .i64 t.mark, .slice a t.ents.length cap]] w' fun e w'' => e = .returned (.bool z) ∧ Below w'.heap.size w' w'' := fun w' h => by rw [hz]; exact may17_any h
  have HM := Lib.hid M
  have HZ := Lib.hid hz
  clear M hz hs
  cases z
  · rw [latestP, if_neg (of_decide_eq_false HZ.out.symm)] at hf
    cases hf
    go_enter Try.func26, Try.ntmps26
    go_wp2_with fail
    refine Calls.mono (HM.out _ ?_) ?_
    · exact T.out.below (by repeat (first | (with_reducible exact Below.refl _ _) | (with_reducible exact Below.refl _ _) | (with_reducible apply Below.drew) | (with_reducible apply below_alloc) | ((with_reducible refine Below.alloc ?_ ?_ _); rotate_left; focus (first | (simp; done) | (simp; omega) | omega)) | ((with_reducible refine Below.setCell ?_ ?_ _); rotate_left; focus (first | (simp; done) | (simp; omega) | omega))))
    rintro e w2 ⟨rfl, hb⟩
    have HB : Hid (Below w.heap.size w _) := below_step (by repeat (first | (with_reducible exact Below.refl _ _) | (with_reducible exact Below.refl _ _) | (with_reducible apply Below.drew) | (with_reducible apply below_alloc) | ((with_reducible refine Below.alloc ?_ ?_ _); rotate_left; focus (first | (simp; done) | (simp; omega) | omega)) | ((with_reducible refine Below.setCell ?_ ?_ _); rotate_left; focus (first | (simp; done) | (simp; omega) | omega)))) hb
    have R : Blk _ (w.heap.size + 1) _ _ := Blk.step (by repeat (first | ((with_reducible apply Blk.new); focus (first | rfl | (simp; done) | (simp; omega))) | (with_reducible apply Blk.drew) | (with_reducible apply Blk.alloc) | (with_reducible apply Blk.set_) | ((with_reducible apply Blk.far); rotate_left; focus (first | (simp; done) | (simp; omega) | omega)))) hb
    obtain ⟨r0, r1, r2, r3, rz⟩ := cells4 R
    have rl := Blk.lt R
    have HR := Lib.hid R
    clear R
    clear hb
    go_wp2_with fail
    refine bodyPost_ret (v := .tuple #[.agg #[.int .i64 0, .int .i64 0, .string ⟨#[]⟩, .string ⟨#[]⟩], .bool false, .int .i64 8]) (by simp [results, Try.results26, go_sem, r0, r1, r2, r3]) rfl ⟨rfl, ?_⟩
    repeat (first | (with_reducible exact HB.out) | (with_reducible exact Below.refl _ _) | (with_reducible apply Below.drew) | (with_reducible apply below_alloc) | ((with_reducible refine Below.alloc ?_ ?_ _); rotate_left; focus (first | (simp; done) | (simp; omega) | omega)) | ((with_reducible refine Below.setCell ?_ ?_ _); rotate_left; focus (first | (simp; done) | (simp; omega) | omega)))
  · have hm : t.may := of_decide_eq_true HZ.out.symm
    have HL := Lib.hid (show t.ents.length ≤ 1000000 by have := hm.1.2.2.2.2.2.2; omega)
    rw [latestP, if_pos hm] at hf
    clear hm
    by_cases hl : 16 < key.size
    · rw [if_pos hl] at hf
      cases hf
      have hl2 : (16 : Int) < (key.size : Int) := by omega
      clear hl
      go_enter Try.func26, Try.ntmps26
      go_wp2_with fail
      refine Calls.mono (HM.out _ ?_) ?_
      · exact T.out.below (by repeat (first | (with_reducible exact Below.refl _ _) | (with_reducible exact Below.refl _ _) | (with_reducible apply Below.drew) | (with_reducible apply below_alloc) | ((with_reducible refine Below.alloc ?_ ?_ _); rotate_left; focus (first | (simp; done) | (simp; omega) | omega)) | ((with_reducible refine Below.setCell ?_ ?_ _); rotate_left; focus (first | (simp; done) | (simp; omega) | omega))))
      rintro e w2 ⟨rfl, hb⟩
      have HB : Hid (Below w.heap.size w _) := below_step (by repeat (first | (with_reducible exact Below.refl _ _) | (with_reducible exact Below.refl _ _) | (with_reducible apply Below.drew) | (with_reducible apply below_alloc) | ((with_reducible refine Below.alloc ?_ ?_ _); rotate_left; focus (first | (simp; done) | (simp; omega) | omega)) | ((with_reducible refine Below.setCell ?_ ?_ _); rotate_left; focus (first | (simp; done) | (simp; omega) | omega)))) hb
      have R : Blk _ (w.heap.size + 1) _ _ := Blk.step (by repeat (first | ((with_reducible apply Blk.new); focus (first | rfl | (simp; done) | (simp; omega))) | (with_reducible apply Blk.drew) | (with_reducible apply Blk.alloc) | (with_reducible apply Blk.set_) | ((with_reducible apply Blk.far); rotate_left; focus (first | (simp; done) | (simp; omega) | omega)))) hb
      obtain ⟨r0, r1, r2, r3, rz⟩ := cells4 R
      have rl := Blk.lt R
      have HR := Lib.hid R
      clear R
      clear hb
      go_wp2_with fail
      refine bodyPost_ret (v := .tuple #[.agg #[.int .i64 0, .int .i64 0, .string ⟨#[]⟩, .string ⟨#[]⟩], .bool false, .int .i64 3]) (by simp [results, Try.results26, go_sem, r0, r1, r2, r3]) rfl ⟨rfl, ?_⟩
      repeat (first | (with_reducible exact HB.out) | (with_reducible exact Below.refl _ _) | (with_reducible apply Below.drew) | (with_reducible apply below_alloc) | ((with_reducible refine Below.alloc ?_ ?_ _); rotate_left; focus (first | (simp; done) | (simp; omega) | omega)) | ((with_reducible refine Below.setCell ?_ ?_ _); rotate_left; focus (first | (simp; done) | (simp; omega) | omega)))
    · rw [if_neg hl] at hf
      have hl2 : (key.size : Int) ≤ 16 := by omega
      obtain ⟨y, q, hyq⟩ : ∃ y q, lastP t.ents key below = (y, q) := ⟨_, _, rfl⟩
      rw [hyq] at hf
      cases hf
      have HYQ := Lib.hid hyq
      clear hl hyq
      go_enter Try.func26, Try.ntmps26
      go_wp2_with fail
      refine Calls.mono (HM.out _ ?_) ?_
      · exact T.out.below (by repeat (first | (with_reducible exact Below.refl _ _) | (with_reducible exact Below.refl _ _) | (with_reducible apply Below.drew) | (with_reducible apply below_alloc) | ((with_reducible refine Below.alloc ?_ ?_ _); rotate_left; focus (first | (simp; done) | (simp; omega) | omega)) | ((with_reducible refine Below.setCell ?_ ?_ _); rotate_left; focus (first | (simp; done) | (simp; omega) | omega))))
      rintro e w2 ⟨rfl, hb⟩
      have HB : Hid (Below w.heap.size w _) := below_step (by repeat (first | (with_reducible exact Below.refl _ _) | (with_reducible exact Below.refl _ _) | (with_reducible apply Below.drew) | (with_reducible apply below_alloc) | ((with_reducible refine Below.alloc ?_ ?_ _); rotate_left; focus (first | (simp; done) | (simp; omega) | omega)) | ((with_reducible refine Below.setCell ?_ ?_ _); rotate_left; focus (first | (simp; done) | (simp; omega) | omega)))) hb
      have A : Blk _ (w.heap.size) _ _ := Blk.step (by repeat (first | ((with_reducible apply Blk.new); focus (first | rfl | (simp; done) | (simp; omega))) | (with_reducible apply Blk.drew) | (with_reducible apply Blk.alloc) | (with_reducible apply Blk.set_) | ((with_reducible apply Blk.far); rotate_left; focus (first | (simp; done) | (simp; omega) | omega)))) hb
      obtain ⟨a0, a1, a2, a3, az⟩ := cells4 A
      have al := Blk.lt A
      have HA := Lib.hid A
      clear A
      have R : Blk _ (w.heap.size + 1) _ _ := Blk.step (by repeat (first | ((with_reducible apply Blk.new); focus (first | rfl | (simp; done) | (simp; omega))) | (with_reducible apply Blk.drew) | (with_reducible apply Blk.alloc) | (with_reducible apply Blk.set_) | ((with_reducible apply Blk.far); rotate_left; focus (first | (simp; done) | (simp; omega) | omega)))) hb
      obtain ⟨r0, r1, r2, r3, rz⟩ := cells4 R
      have rl := Blk.lt R
      have HR := Lib.hid R
      clear R
      clear hb
      go_wp2_with fail
      refine Calls.mono (last_any key below (l := t.ents) ?_ HL.out HYQ.out) ?_
      · exact HS.out.below entCells_len (by repeat (first | (with_reducible exact HB.out) | (with_reducible exact Below.refl _ _) | (with_reducible apply Below.drew) | (with_reducible apply below_alloc) | ((with_reducible refine Below.alloc ?_ ?_ _); rotate_left; focus (first | (simp; done) | (simp; omega) | omega)) | ((with_reducible refine Below.setCell ?_ ?_ _); rotate_left; focus (first | (simp; done) | (simp; omega) | omega))))
      rintro e w3 ⟨rfl, hb⟩
      replace HB : Hid (Below w.heap.size w _) := below_step (by repeat (first | (with_reducible exact HB.out) | (with_reducible exact Below.refl _ _) | (with_reducible apply Below.drew) | (with_reducible apply below_alloc) | ((with_reducible refine Below.alloc ?_ ?_ _); rotate_left; focus (first | (simp; done) | (simp; omega) | omega)) | ((with_reducible refine Below.setCell ?_ ?_ _); rotate_left; focus (first | (simp; done) | (simp; omega) | omega)))) hb
      clear r0 r1 r2 r3 rz rl
      replace HR : Hid (Blk _ (w.heap.size + 1) _ _) := Blk.step (by repeat (first | (with_reducible exact HR.out) | ((with_reducible apply Blk.new); focus (first | rfl | (simp; done) | (simp; omega))) | (with_reducible apply Blk.drew) | (with_reducible apply Blk.alloc) | (with_reducible apply Blk.set_) | ((with_reducible apply Blk.far); rotate_left; focus (first | (simp; done) | (simp; omega) | omega)))) hb
      obtain ⟨r0, r1, r2, r3, rz⟩ := cells4 HR.out
      have rl := Blk.lt HR.out
      clear hb
      go_wp2_with fail
      refine bodyPost_ret (v := .tuple #[.agg #[.int .i64 y.off, .int .i64 y.id, .string y.key, .string y.body], .bool q, .int .i64 0]) (by simp [results, Try.results26, go_sem, r0, r1, r2, r3, rl]) rfl ⟨rfl, ?_⟩
      repeat (first | (with_reducible exact HB.out) | (with_reducible exact Below.refl _ _) | (with_reducible apply Below.drew) | (with_reducible apply below_alloc) | ((with_reducible refine Below.alloc ?_ ?_ _); rotate_left; focus (first | (simp; done) | (simp; omega) | omega)) | ((with_reducible refine Below.setCell ?_ ?_ _); rotate_left; focus (first | (simp; done) | (simp; omega) | omega)))
end Go.Proofs.Ytolgkadoplalnaa
