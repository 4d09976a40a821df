/-
  Texts that belong together; the remark at the head of each says what it proves.
-/
import Derived.Test.YtblgmjbajnkcdaaBunH
import Derived.Test.YtblgmjbajnkcdaaBunF
import Derived.Test.YtblgmjbajnkcdaaBunD
import Derived.Deep.LoopGhost
import Derived.Test.YtblgmjbajnkcdaaBunC
set_option maxRecDepth 100000
/-
  The document's Last. No condition but that the entries read.
-/
namespace Go.Proofs.Ytblgmjbajnkcdaa
open Go.RowKit

/-- An entry and whether there is one. -/
def LastEnd (x : Ent) (b : Bool) (w : World) (e : Ending) (w' : World) : Prop :=
  e = .returned (.tuple #[.agg #[.int .i64 x.off, .int .i64 x.id, .string x.key, .string x.body], .bool b]) ∧ Below w.heap.size w w'

set_option maxHeartbeats 2000000 in
set_option maxRecDepth 100000 in
theorem last_any {v : Value} {l : List Ent} {w : World} {x : Ent} {b : Bool} (key : ByteArray) (below : Int) (h : SliceR w v 4 entCells l) (hl : l.length ≤ 1000000) (hf : lastP l key below = (x, b)) :
    Calls Try.prog 87 #[v, .string key, .int .i64 below] w (LastEnd x b w) := by
  obtain ⟨a, cap, hv, _⟩ := id h
  subst hv
  obtain ⟨⟨_, hcap⟩, ⟨hmax, _⟩, hd⟩ := h.ents
  have HD := Lib.hid hd
  have HF := Lib.hid hf
  obtain ⟨n, hn⟩ : ∃ n, n = l.length := ⟨_, rfl⟩
  rw [← hn] at HD hcap hl ⊢
  have HN := Lib.hid hn
  have hn' : (n : Int) ≤ 1000000 := by omega
  clear hd hf h hn hmax
  go_enter Try.func87, Try.ntmps87
  go_wp2_with fail
  go_loopg [9, 10] n (fun g is i wr => ∃ (k : Nat) (y : Ent) (q : Bool), k ≤ n ∧ g = n - k ∧ i = .int .i64 (k : Int) ∧ is = .bool q ∧ Hid (lastP (l.take k) key below = (y, q)) ∧ Hid (Below w.heap.size w wr) ∧
    Hid (Blk wr w.heap.size 29 [.int .i64 0, .int .i64 0, .string ⟨#[]⟩, .string ⟨#[]⟩]) ∧ Hid (Blk wr (w.heap.size + 1) 29 [.int .i64 y.off, .int .i64 y.id, .string y.key, .string y.body]))
  case atStart =>
    refine ⟨0, default, false, Nat.zero_le _, rfl, rfl, rfl, rfl, ?_, ?_, ?_⟩
    · show Below _ _ _
      repeat (first | (with_reducible exact Below.refl _ _) | (with_reducible exact Below.refl _ _) | (with_reducible apply Below.drew) | (with_reducible apply below_alloc) | ((with_reducible refine Below.alloc ?_ ?_ _); rotate_left; focus (first | (simp; done) | (simp; omega) | omega)) | ((with_reducible refine Below.setCell ?_ ?_ _); rotate_left; focus (first | (simp; done) | (simp; omega) | omega)))
    · show Blk _ _ _ _
      exact Blk.alloc (Blk.new rfl) _
    · show Blk _ _ _ _
      exact Blk.new (by simp)
  case round =>
    obtain ⟨k, y, q, hk, rfl, rfl, rfl, hy, HB, HR, HY⟩ := hrel
    obtain ⟨r0, r1, r2, r3, rz⟩ := cells4 HR.out
    obtain ⟨y0, y1, y2, y3, yz⟩ := cells4 HY.out
    have yl := HY.out.lt
    by_cases hlt : k < n
    · have hk0 : (0 : Int) ≤ (k : Int) := by omega
      have hk1 : (k : Int) < (n : Int) := by omega
      obtain ⟨bb, off, ha, hcc⟩ := HD.out (by omega)
      subst ha
      have cc := hcc k (by rw [← HN.out]; exact hlt)
      have hbb : bb < w.heap.size := World.block_lt_of_cell? w _ cc.1.1.1
      clear hcc
      obtain ⟨z, hz⟩ : ∃ z, z = l.getD k default := ⟨_, rfl⟩
      rw [← hz] at cc
      have c0 := keep HB.out cc.1.1.1
      have c1 := keep HB.out cc.1.1.2
      have c2 := keep HB.out cc.1.2
      have c3 := keep HB.out cc.2
      have HT := Lib.hid (show lastP (l.take (k + 1)) key below = if wantE key below z then (z, true) else (y, q) by
        rw [take_succ_ent (by rw [← HN.out]; exact hlt), ← hz, last_snoc, hy.out])
      obtain ⟨e, he⟩ : ∃ e, e = (z.key.toList == key.toList) := ⟨_, rfl⟩
      have he' := he.symm
      have HE := Lib.hid he
      clear cc hz he
      cases e
      · go_wp2_with fail
        go_roundg (n - (k + 1))
        case measure => omega
        case rel =>
          refine ⟨k + 1, y, q, by omega, rfl, by go_num, rfl, ?_, HB, HR, HY⟩
          have hw : wantE key below z = false := by rw [wantE, ← HE.out]; rfl
          have := HT.out
          rw [hw] at this
          exact this
      · by_cases hb : z.off < below
        · have HBB := Lib.hid hb
          go_wp2_with fail
          go_roundg (n - (k + 1))
          case measure => omega
          case rel =>
            refine ⟨k + 1, z, true, by omega, rfl, by go_num, rfl, ?_, ?_, ?_, ?_⟩
            · have hw : wantE key below z = true := by rw [wantE, ← HE.out]; simpa using HBB.out
              have := HT.out
              rw [hw] at this
              exact this
            · show Below _ _ _
              repeat (first | (with_reducible exact HB.out) | (with_reducible exact Below.refl _ _) | (with_reducible apply Below.drew) | (with_reducible apply below_alloc) | ((with_reducible refine Below.alloc ?_ ?_ _); rotate_left; focus (first | (simp; done) | (simp; omega) | omega)) | ((with_reducible refine Below.setCell ?_ ?_ _); rotate_left; focus (first | (simp; done) | (simp; omega) | omega)))
            · show Blk _ _ _ _
              repeat (first | (with_reducible exact HR.out) | ((with_reducible apply Blk.new); focus (first | rfl | (simp; done) | (simp; omega))) | (with_reducible apply Blk.drew) | (with_reducible apply Blk.alloc) | (with_reducible apply Blk.set_) | ((with_reducible apply Blk.far); rotate_left; focus (first | (simp; done) | (simp; omega) | omega)))
            · have h0 := (((HY.out.set_ 0 (.int .i64 z.off)).set_ 1 (.int .i64 z.id)).set_ 2 (.string z.key)).set_ 3 (.string z.body)
              simp only [List.set_cons_zero, List.set_cons_succ] at h0
              exact h0
        · have HBB := Lib.hid hb
          go_wp2_with fail
          go_roundg (n - (k + 1))
          case measure => omega
          case rel =>
            refine ⟨k + 1, y, q, by omega, rfl, by go_num, rfl, ?_, HB, HR, HY⟩
            have hw : wantE key below z = false := by
              rw [wantE, ← HE.out]
              have := HBB.out
              simp
              omega
            have := HT.out
            rw [hw] at this
            exact this
    · obtain rfl : k = n := by omega
      have hlt' : ¬ (k : Int) < (k : Int) := by omega
      have hy2 := hy.out
      rw [show l.take k = l by rw [HN.out]; exact List.take_length, HF.out] at hy2
      injection hy2 with h1 h2
      subst h1 h2
      go_wp2_with fail
      refine bodyPost_ret (v := .tuple #[.agg #[.int .i64 x.off, .int .i64 x.id, .string x.key, .string x.body], .bool b]) (by simp [results, Try.results87, go_sem, r0, r1, r2, r3]) rfl ⟨rfl, ?_⟩
      repeat (first | (with_reducible exact HB.out) | (with_reducible exact Below.refl _ _) | (with_reducible apply Below.drew) | (with_reducible apply below_alloc) | ((with_reducible refine Below.alloc ?_ ?_ _); rotate_left; focus (first | (simp; done) | (simp; omega) | omega)) | ((with_reducible refine Below.setCell ?_ ?_ _); rotate_left; focus (first | (simp; done) | (simp; omega) | omega)))
end Go.Proofs.Ytblgmjbajnkcdaa
/-
  The document's Compact. No condition but that the topic reads.
-/
namespace Go.Proofs.Ytblgmjbajnkcdaa
open Go.RowKit

/-- Between two rounds: entry k comes next. -/
def RcI (w : World) (t : Top) (m : Int) (a : Option Addr) (n cap tb k : Nat) (al : Option Addr) (q capl : Nat) (W : World) : Prop :=
  (Blk W w.heap.size 72 [.int .i64 t.base, .int .i64 t.next, .int .i64 t.mark, .slice a n cap] ∧ Blk W (w.heap.size + 1) 72 [.int .i64 0, .int .i64 0, .int .i64 0, .slice none 0 0]) ∧
  (q = ((t.ents.take k).filter (keptR m t.ents)).length ∧ Blk W tb 72 [.int .i64 t.base, .int .i64 t.next, .int .i64 m, .slice al q capl] ∧ OwnE W (tb + 1) (.slice al q capl) ((t.ents.take k).filter (keptR m t.ents))) ∧ Below w.heap.size w W

set_option maxHeartbeats 4000000 in
set_option maxRecDepth 100000 in
theorem refCom_yes {v : Value} {t : Top} {w : World} (to : Int) (h : TopR w v t) (hm : t.may) (h1 : 0 ≤ to) (h2 : to ≤ 1073741824) :
    Calls Try.prog 58 #[v, .int .i64 to] w (TopEnd1 ⟨t.base, t.next, markC t to, refC (markC t to) t.ents⟩ 0 w) := by
  obtain ⟨i0, hi, hz0, hz1, hz2⟩ := info_parts info_ent
  have T := Lib.hid h
  have HLE := Lib.hid (show t.ents.length ≤ 1000000 by have := hm.1.2.2.2.2.2.2; omega)
  obtain ⟨a, cap, rfl, hs⟩ := h
  have HS := Lib.hid hs
  have HM := Lib.hid hm
  have hbn : t.mark ≤ t.next := hm.1.2.2.2.2.2.1
  obtain ⟨m, hmd⟩ : ∃ m, m = markC t to := ⟨_, rfl⟩
  rw [← hmd]
  rw [markC] at hmd
  have cases3 : (t.next < to ∧ ¬ t.next < t.mark ∧ m = t.next) ∨ (¬ t.next < to ∧ to < t.mark ∧ m = t.mark) ∨ (¬ t.next < to ∧ ¬ to < t.mark ∧ m = to) := by omega
  clear hm hmd hs
  obtain ⟨n, hn⟩ : ∃ n, n = t.ents.length := ⟨_, rfl⟩
  rw [← hn] at HLE HS T ⊢
  have HN := Lib.hid hn
  have hn' : (n : Int) ≤ 1000000 := by have := HLE.out; omega
  clear hn
  rcases cases3 with ⟨g1, g2, rfl⟩ | ⟨g1, g2, rfl⟩ | ⟨g1, g2, rfl⟩
  · go_enter Try.func58, Try.ntmps58
    go_wp2_with fail
    refine Calls.mono (may17_any (t := t) ?_) ?_
    · exact T.out.below (by repeat (first | (with_reducible exact Below.refl _ _) | (with_reducible exact Below.refl _ _) | (with_reducible apply Below.drew) | (with_reducible apply below_alloc) | ((with_reducible refine Below.alloc ?_ ?_ _); rotate_left; focus (first | (simp; done) | (simp; omega) | omega)) | ((with_reducible refine Below.setCell ?_ ?_ _); rotate_left; focus (first | (simp; done) | (simp; omega) | omega))))
    rw [decide_eq_true HM.out]
    rintro e w2 ⟨rfl, hb⟩
    have HB : Hid (Below w.heap.size w _) := below_step (by repeat (first | (with_reducible exact Below.refl _ _) | (with_reducible exact Below.refl _ _) | (with_reducible apply Below.drew) | (with_reducible apply below_alloc) | ((with_reducible refine Below.alloc ?_ ?_ _); rotate_left; focus (first | (simp; done) | (simp; omega) | omega)) | ((with_reducible refine Below.setCell ?_ ?_ _); rotate_left; focus (first | (simp; done) | (simp; omega) | omega)))) hb
    have P : Blk _ (w.heap.size) _ _ := Blk.step (by repeat (first | ((with_reducible apply Blk.new); focus (first | rfl | (simp; done) | (simp; omega))) | (with_reducible apply Blk.drew) | (with_reducible apply Blk.alloc) | (with_reducible apply Blk.set_) | ((with_reducible apply Blk.far); rotate_left; focus (first | (simp; done) | (simp; omega) | omega)))) hb
    obtain ⟨p0, p1, p2, p3, pz⟩ := cells4 P
    have pl := Blk.lt P
    have HP := Lib.hid P
    clear P
    have R : Blk _ (w.heap.size + 1) _ _ := Blk.step (by repeat (first | ((with_reducible apply Blk.new); focus (first | rfl | (simp; done) | (simp; omega))) | (with_reducible apply Blk.drew) | (with_reducible apply Blk.alloc) | (with_reducible apply Blk.set_) | ((with_reducible apply Blk.far); rotate_left; focus (first | (simp; done) | (simp; omega) | omega)))) hb
    obtain ⟨r0, r1, r2, r3, rz⟩ := cells4 R
    have rl := Blk.lt R
    have HR := Lib.hid R
    clear R
    have s2 : w.heap.size + 2 ≤ w2.heap.size := rl
    clear hb
    go_wp2_with fail
    go_loopg [7] n (fun g i wr => ∃ (k q : Nat) (al : Option Addr) (capl : Nat), k ≤ n ∧ g = n - k ∧ i = .int .i64 (k : Int) ∧ Hid (RcI w t (t.next) a n cap w2.heap.size k al q capl wr))
    case atStart =>
      refine ⟨0, 0, none, 0, Nat.zero_le _, rfl, rfl, ⟨?_, ?_⟩, ⟨rfl, ?_, ?_⟩, ?_⟩
      · repeat (first | (with_reducible exact HP.out) | ((with_reducible apply Blk.new); focus (first | rfl | (simp; done) | (simp; omega))) | (with_reducible apply Blk.drew) | (with_reducible apply Blk.alloc) | (with_reducible apply Blk.set_) | ((with_reducible apply Blk.far); rotate_left; focus (first | (simp; done) | (simp; omega) | omega)))
      · repeat (first | (with_reducible exact HR.out) | ((with_reducible apply Blk.new); focus (first | rfl | (simp; done) | (simp; omega))) | (with_reducible apply Blk.drew) | (with_reducible apply Blk.alloc) | (with_reducible apply Blk.set_) | ((with_reducible apply Blk.far); rotate_left; focus (first | (simp; done) | (simp; omega) | omega)))
      · exact Blk.new rfl
      · exact World.ownsRow_nil _ _ _ _
      · show Below _ _ _
        repeat (first | (with_reducible exact HB.out) | (with_reducible exact Below.refl _ _) | (with_reducible apply Below.drew) | (with_reducible apply below_alloc) | ((with_reducible refine Below.alloc ?_ ?_ _); rotate_left; focus (first | (simp; done) | (simp; omega) | omega)) | ((with_reducible refine Below.setCell ?_ ?_ _); rotate_left; focus (first | (simp; done) | (simp; omega) | omega)))
    case round =>
      clear HB HP HR p0 p1 p2 p3 pz pl r0 r1 r2 r3 rz rl
      obtain ⟨k, q, al, capl, hk, rfl, rfl, hI⟩ := hrel
      have HI := Lib.hid hI.out
      obtain ⟨⟨hP, hR⟩, ⟨hq, hT, hO⟩, hB⟩ := hI.out
      have HP := Lib.hid hP
      have HR := Lib.hid hR
      have HT := Lib.hid hT
      have HO := Lib.hid hO
      have HB := Lib.hid hB
      have HQ := Lib.hid hq
      obtain ⟨p0, p1, p2, p3, pz⟩ := cells4 hP
      obtain ⟨t0, t1, t2, t3, tz⟩ := cells4 hT
      obtain ⟨r0, r1, r2, r3, rz⟩ := cells4 hR
      have hs0 : w.heap.size + 1 < wr.heap.size := hR.lt
      have pl := hP.lt
      have rl := hR.lt
      have tl := hT.lt
      have hws : w.heap.size < wr.heap.size := hP.lt
      clear hP hR hT hO hB hq hI
      by_cases hlt : k < n
      · have hk0 : (0 : Int) ≤ (k : Int) := by omega
        have hk1 : (k : Int) < (n : Int) := by omega
        obtain ⟨bb, off, ha, hcc⟩ := HS.out.ents.2.2 (by omega)
        subst ha
        have cc := hcc k (by rw [← HN.out]; exact hlt)
        obtain ⟨x, hx⟩ : ∃ x, x = t.ents.getD k default := ⟨_, rfl⟩
        rw [← hx] at cc
        have c0 := keep HB.out cc.1.1.1
        have c1 := keep HB.out cc.1.1.2
        have c2 := keep HB.out cc.1.2
        have c3 := keep HB.out cc.2
        have hcap := HS.out.ents.1.2
        obtain ⟨y, b, hyb⟩ : ∃ y b, lastP t.ents x.key (t.next) = (y, b) := ⟨_, _, rfl⟩
        have HYB := Lib.hid hyb
        have HF := Lib.hid (show (t.ents.take (k + 1)).filter (keptR (t.next) t.ents) = (t.ents.take k).filter (keptR (t.next) t.ents) ++ (if keptR (t.next) t.ents x then [x] else []) by
          rw [take_succ_ent (by rw [← HN.out]; exact hlt), List.filter_append, ← hx]
          congr 1
          by_cases h : keptR (t.next) t.ents x = true <;> simp [h])
        have HKR := Lib.hid (show keptR (t.next) t.ents x = (decide ((t.next) ≤ x.off) || decide (y.off = x.off)) by rw [keptR, hyb])
        clear hcc cc hx hyb
        go_wp2_with fail
        refine Calls.mono (last_any x.key (t.next) (l := t.ents) ?_ (by rw [← HN.out]; exact HLE.out) HYB.out) ?_
        · exact HS.out.below entCells_len (by repeat (first | (with_reducible exact HB.out) | (with_reducible exact Below.refl _ _) | (with_reducible apply Below.drew) | (with_reducible apply below_alloc) | ((with_reducible refine Below.alloc ?_ ?_ _); rotate_left; focus (first | (simp; done) | (simp; omega) | omega)) | ((with_reducible refine Below.setCell ?_ ?_ _); rotate_left; focus (first | (simp; done) | (simp; omega) | omega))))
        rintro e w5 ⟨rfl, hb⟩
        replace HB : Hid (Below w.heap.size w _) := below_step (by repeat (first | (with_reducible exact HB.out) | (with_reducible exact Below.refl _ _) | (with_reducible apply Below.drew) | (with_reducible apply below_alloc) | ((with_reducible refine Below.alloc ?_ ?_ _); rotate_left; focus (first | (simp; done) | (simp; omega) | omega)) | ((with_reducible refine Below.setCell ?_ ?_ _); rotate_left; focus (first | (simp; done) | (simp; omega) | omega)))) hb
        clear p0 p1 p2 p3 pz pl
        replace HP : Hid (Blk _ (w.heap.size) _ _) := Blk.step (by repeat (first | (with_reducible exact HP.out) | ((with_reducible apply Blk.new); focus (first | rfl | (simp; done) | (simp; omega))) | (with_reducible apply Blk.drew) | (with_reducible apply Blk.alloc) | (with_reducible apply Blk.set_) | ((with_reducible apply Blk.far); rotate_left; focus (first | (simp; done) | (simp; omega) | omega)))) hb
        obtain ⟨p0, p1, p2, p3, pz⟩ := cells4 HP.out
        have pl := Blk.lt HP.out
        clear r0 r1 r2 r3 rz rl
        replace HR : Hid (Blk _ (w.heap.size + 1) _ _) := Blk.step (by repeat (first | (with_reducible exact HR.out) | ((with_reducible apply Blk.new); focus (first | rfl | (simp; done) | (simp; omega))) | (with_reducible apply Blk.drew) | (with_reducible apply Blk.alloc) | (with_reducible apply Blk.set_) | ((with_reducible apply Blk.far); rotate_left; focus (first | (simp; done) | (simp; omega) | omega)))) hb
        obtain ⟨r0, r1, r2, r3, rz⟩ := cells4 HR.out
        have rl := Blk.lt HR.out
        clear t0 t1 t2 t3 tz tl
        replace HT : Hid (Blk _ (w2.heap.size) _ _) := Blk.step (by repeat (first | (with_reducible exact HT.out) | ((with_reducible apply Blk.new); focus (first | rfl | (simp; done) | (simp; omega))) | (with_reducible apply Blk.drew) | (with_reducible apply Blk.alloc) | (with_reducible apply Blk.set_) | ((with_reducible apply Blk.far); rotate_left; focus (first | (simp; done) | (simp; omega) | omega)))) hb
        obtain ⟨t0, t1, t2, t3, tz⟩ := cells4 HT.out
        have tl := Blk.lt HT.out
        have X : Blk _ (wr.heap.size) _ _ := Blk.step (by repeat (first | ((with_reducible apply Blk.new); focus (first | rfl | (simp; done) | (simp; omega))) | (with_reducible apply Blk.drew) | (with_reducible apply Blk.alloc) | (with_reducible apply Blk.set_) | ((with_reducible apply Blk.far); rotate_left; focus (first | (simp; done) | (simp; omega) | omega)))) hb
        obtain ⟨x0, x1, x2, x3, xz⟩ := cells4 X
        have xl := Blk.lt X
        have HX := Lib.hid X
        clear X
        have HO5 : Hid (OwnE w5 (w2.heap.size + 1) _ _) := own_step (by repeat (first | (with_reducible exact HO.out) | (with_reducible apply own_drew) | (with_reducible apply own_alloc) | ((with_reducible apply own_set); rotate_left; focus (first | (simp; done) | (simp; omega) | omega)))) hb
        clear hb
        have hw5 : w.heap.size < w5.heap.size := HP.out.lt
        have hz5 : w2.heap.size + 1 ≤ w5.heap.size := HT.out.lt
        have hq6 := HQ.out
        have hql : q ≤ 1000000 := by
          have h0 := List.length_filter_le (keptR (t.next) t.ents) (t.ents.take k)
          rw [← hq6, List.length_take] at h0
          have := HLE.out
          omega
        have HQL := Lib.hid hql
        obtain ⟨E, hE⟩ : ∃ E, E = (t.ents.take k).filter (keptR (t.next) t.ents) := ⟨_, rfl⟩
        rw [← hE] at HO5 hq6 HF
        have HQE := Lib.hid hq6
        clear hq6 hE hql
        have push : ∀ (kk : keptR (t.next) t.ents x = true) (v' : Value) (w6 : World), w6.ownsRow (w2.heap.size + 1) 29 4 v' (E.length + 1) (E.flatMap entCells ++ entCells x) → ((w5.alloc (.cells #[.int .i64 y.off, .int .i64 y.id, .string y.key, .string y.body] 29)).alloc (.cells #[.int .i64 x.off, .int .i64 x.id, .string x.key, .string x.body] 29)).grownBy w6 (Value.slice al q capl).ownBlock →
            ∃ a6 cap6, v' = .slice a6 (q + 1) cap6 ∧ RcI w t (t.next) (some ⟨bb, off, none⟩) n cap w2.heap.size (k + 1) a6 (q + 1) cap6 (w6.setCell ⟨w2.heap.size, 3, none⟩ (.slice a6 (q + 1) cap6)) ∧ Blk w6 w2.heap.size 72 [.int .i64 t.base, .int .i64 t.next, .int .i64 (t.next), .slice al q capl] := by
          intro kk v' w6 ho hg
          have ho' : OwnE w6 (w2.heap.size + 1) v' (E ++ [x]) := by
            show w6.ownsRow _ _ _ _ _ _
            simpa [List.flatMap_append] using ho
          obtain ⟨a6, cap6, hv⟩ := own_shape ho'
          have hlen : (E ++ [x]).length = q + 1 := by rw [List.length_append, HQE.out]; rfl
          rw [hlen] at hv
          subst hv
          have hf := HF.out
          rw [kk, if_pos rfl] at hf
          have ne : ∀ g, g < w2.heap.size + 1 → (Value.slice al q capl).ownBlock ≠ some g := fun g hg e => by have := (HO5.out.lt _ e).1; omega
          have hT6 := ((HT.out.alloc _).alloc _).grown hg (ne _ (by omega))
          refine ⟨a6, cap6, rfl, ⟨⟨(((HP.out.alloc _).alloc _).grown hg (ne _ (by omega))).far (by omega) _, (((HR.out.alloc _).alloc _).grown hg (ne _ (by omega))).far (by omega) _⟩, ⟨by rw [hf, hlen], ?_, ?_⟩, ?_⟩, hT6⟩
          · have := hT6.set_ 3 (.slice a6 (q + 1) cap6)
            simpa only [List.set_cons_zero, List.set_cons_succ] using this
          · rw [hf]
            exact own_set ho' (by omega)
          · exact Below.setCell (p := ⟨w2.heap.size, 3, none⟩) ((below_alloc (below_alloc HB.out)).grown hg (by have := HB.out.size; simp; omega) (fun j e => by have := (HO5.out.lt j e).1; omega)) (by simp; omega) _
        have PUSH := Lib.hid push
        clear push
        by_cases hge : t.next ≤ x.off
        · have hnl : ¬ x.off < t.next := by omega
          have HKT := Lib.hid (show keptR (t.next) t.ents x = true by rw [HKR.out]; simp; omega)
          go_wp2_with (at_builtin; go_must (refine wpList_append_own _ rfl _ _ 70 rfl (w2.heap.size + 1) 29 i0 _ 4 48 Try.underlying70 hi hz0 hz1 hz2 rfl (by decide) _ _ _ rfl (own_alloc (own_alloc HO5.out)) ⟨w5.heap.size + 1, 0, none⟩ 1 1 (entCells x) rfl rfl ?_ (by intro v hv; simp [entCells] at hv; rcases hv with rfl | rfl | rfl | rfl <;> rfl) (by have := HQL.out; have := HQE.out; unfold maxLen; omega) (by have := HQL.out; have := HQE.out; omega) (by simp; omega) ?_))
          · exact news_ent x (by simp)
          · intro v' w6 hown6 hgrow _
            obtain ⟨a6, cap6, rfl, hI6, hT6⟩ := PUSH.out HKT.out v' w6 hown6 hgrow
            obtain ⟨t0, t1, t2, t3, tz⟩ := cells4 hT6
            have HI6 := Lib.hid hI6
            clear hown6 hgrow hI6 hT6
            go_wp2_with fail
            go_roundg (n - (k + 1))
            case measure => omega
            case rel => exact ⟨k + 1, q + 1, a6, cap6, by omega, rfl, by go_num, HI6.out⟩
        · have hnl : x.off < t.next := by omega
          by_cases hyx : y.off = x.off
          · have HKT := Lib.hid (show keptR (t.next) t.ents x = true by rw [HKR.out, hyx]; simp)
            have hyx2 : (y.off == x.off) = true := by simpa using hyx
            clear hyx
            go_wp2_with (at_builtin; go_must (refine wpList_append_own _ rfl _ _ 70 rfl (w2.heap.size + 1) 29 i0 _ 4 48 Try.underlying70 hi hz0 hz1 hz2 rfl (by decide) _ _ _ rfl (own_alloc (own_alloc HO5.out)) ⟨w5.heap.size + 1, 0, none⟩ 1 1 (entCells x) rfl rfl ?_ (by intro v hv; simp [entCells] at hv; rcases hv with rfl | rfl | rfl | rfl <;> rfl) (by have := HQL.out; have := HQE.out; unfold maxLen; omega) (by have := HQL.out; have := HQE.out; omega) (by simp; omega) ?_))
            · exact news_ent x (by simp)
            · intro v' w6 hown6 hgrow _
              obtain ⟨a6, cap6, rfl, hI6, hT6⟩ := PUSH.out HKT.out v' w6 hown6 hgrow
              obtain ⟨t0, t1, t2, t3, tz⟩ := cells4 hT6
              have HI6 := Lib.hid hI6
              clear hown6 hgrow hI6 hT6
              go_wp2_with fail
              go_roundg (n - (k + 1))
              case measure => omega
              case rel => exact ⟨k + 1, q + 1, a6, cap6, by omega, rfl, by go_num, HI6.out⟩
          · have HKT := Lib.hid (show keptR (t.next) t.ents x = false by rw [HKR.out]; simp; omega)
            have hyx2 : (y.off == x.off) = false := by simpa using hyx
            clear hyx
            go_wp2_with fail
            go_roundg (n - (k + 1))
            case measure => omega
            case rel =>
              refine ⟨k + 1, q, al, capl, by omega, rfl, by go_num, ⟨HP.out.alloc _, HR.out.alloc _⟩, ⟨?_, HT.out.alloc _, ?_⟩, below_alloc HB.out⟩
              · rw [HF.out, HKT.out]
                simp [HQE.out]
              · rw [HF.out, HKT.out]
                simpa using own_alloc HO5.out
      · obtain rfl : k = n := by omega
        have hlt' : ¬ (k : Int) < (k : Int) := by omega
        have HFIN := Lib.hid (show (t.ents.take k).filter (keptR (t.next) t.ents) = refC (t.next) t.ents by rw [HN.out, List.take_length, refC])
        go_wp2_with fail
        refine bodyPost_ret (v := .tuple #[.agg #[.int .i64 t.base, .int .i64 t.next, .int .i64 (t.next), .slice al q capl], .int .i64 0]) (by simp [results, Try.results58, go_sem, r0, r1, r2, r3]) rfl ?_
        have hq := HQ.out
        have ho := HO.out
        rw [HFIN.out] at hq ho
        subst hq
        refine ⟨al, capl, rfl, ?_, ?_⟩
        · exact own_base (own_set (own_set (own_set (own_set ho (by omega)) (by omega)) (by omega)) (by omega)) (by omega)
        · repeat (first | (with_reducible exact HB.out) | (with_reducible exact Below.refl _ _) | (with_reducible apply Below.drew) | (with_reducible apply below_alloc) | ((with_reducible refine Below.alloc ?_ ?_ _); rotate_left; focus (first | (simp; done) | (simp; omega) | omega)) | ((with_reducible refine Below.setCell ?_ ?_ _); rotate_left; focus (first | (simp; done) | (simp; omega) | omega)))
  · go_enter Try.func58, Try.ntmps58
    go_wp2_with fail
    refine Calls.mono (may17_any (t := t) ?_) ?_
    · exact T.out.below (by repeat (first | (with_reducible exact Below.refl _ _) | (with_reducible exact Below.refl _ _) | (with_reducible apply Below.drew) | (with_reducible apply below_alloc) | ((with_reducible refine Below.alloc ?_ ?_ _); rotate_left; focus (first | (simp; done) | (simp; omega) | omega)) | ((with_reducible refine Below.setCell ?_ ?_ _); rotate_left; focus (first | (simp; done) | (simp; omega) | omega))))
    rw [decide_eq_true HM.out]
    rintro e w2 ⟨rfl, hb⟩
    have HB : Hid (Below w.heap.size w _) := below_step (by repeat (first | (with_reducible exact Below.refl _ _) | (with_reducible exact Below.refl _ _) | (with_reducible apply Below.drew) | (with_reducible apply below_alloc) | ((with_reducible refine Below.alloc ?_ ?_ _); rotate_left; focus (first | (simp; done) | (simp; omega) | omega)) | ((with_reducible refine Below.setCell ?_ ?_ _); rotate_left; focus (first | (simp; done) | (simp; omega) | omega)))) hb
    have P : Blk _ (w.heap.size) _ _ := Blk.step (by repeat (first | ((with_reducible apply Blk.new); focus (first | rfl | (simp; done) | (simp; omega))) | (with_reducible apply Blk.drew) | (with_reducible apply Blk.alloc) | (with_reducible apply Blk.set_) | ((with_reducible apply Blk.far); rotate_left; focus (first | (simp; done) | (simp; omega) | omega)))) hb
    obtain ⟨p0, p1, p2, p3, pz⟩ := cells4 P
    have pl := Blk.lt P
    have HP := Lib.hid P
    clear P
    have R : Blk _ (w.heap.size + 1) _ _ := Blk.step (by repeat (first | ((with_reducible apply Blk.new); focus (first | rfl | (simp; done) | (simp; omega))) | (with_reducible apply Blk.drew) | (with_reducible apply Blk.alloc) | (with_reducible apply Blk.set_) | ((with_reducible apply Blk.far); rotate_left; focus (first | (simp; done) | (simp; omega) | omega)))) hb
    obtain ⟨r0, r1, r2, r3, rz⟩ := cells4 R
    have rl := Blk.lt R
    have HR := Lib.hid R
    clear R
    have s2 : w.heap.size + 2 ≤ w2.heap.size := rl
    clear hb
    go_wp2_with fail
    go_loopg [7] n (fun g i wr => ∃ (k q : Nat) (al : Option Addr) (capl : Nat), k ≤ n ∧ g = n - k ∧ i = .int .i64 (k : Int) ∧ Hid (RcI w t (t.mark) a n cap w2.heap.size k al q capl wr))
    case atStart =>
      refine ⟨0, 0, none, 0, Nat.zero_le _, rfl, rfl, ⟨?_, ?_⟩, ⟨rfl, ?_, ?_⟩, ?_⟩
      · repeat (first | (with_reducible exact HP.out) | ((with_reducible apply Blk.new); focus (first | rfl | (simp; done) | (simp; omega))) | (with_reducible apply Blk.drew) | (with_reducible apply Blk.alloc) | (with_reducible apply Blk.set_) | ((with_reducible apply Blk.far); rotate_left; focus (first | (simp; done) | (simp; omega) | omega)))
      · repeat (first | (with_reducible exact HR.out) | ((with_reducible apply Blk.new); focus (first | rfl | (simp; done) | (simp; omega))) | (with_reducible apply Blk.drew) | (with_reducible apply Blk.alloc) | (with_reducible apply Blk.set_) | ((with_reducible apply Blk.far); rotate_left; focus (first | (simp; done) | (simp; omega) | omega)))
      · exact Blk.new rfl
      · exact World.ownsRow_nil _ _ _ _
      · show Below _ _ _
        repeat (first | (with_reducible exact HB.out) | (with_reducible exact Below.refl _ _) | (with_reducible apply Below.drew) | (with_reducible apply below_alloc) | ((with_reducible refine Below.alloc ?_ ?_ _); rotate_left; focus (first | (simp; done) | (simp; omega) | omega)) | ((with_reducible refine Below.setCell ?_ ?_ _); rotate_left; focus (first | (simp; done) | (simp; omega) | omega)))
    case round =>
      clear HB HP HR p0 p1 p2 p3 pz pl r0 r1 r2 r3 rz rl
      obtain ⟨k, q, al, capl, hk, rfl, rfl, hI⟩ := hrel
      have HI := Lib.hid hI.out
      obtain ⟨⟨hP, hR⟩, ⟨hq, hT, hO⟩, hB⟩ := hI.out
      have HP := Lib.hid hP
      have HR := Lib.hid hR
      have HT := Lib.hid hT
      have HO := Lib.hid hO
      have HB := Lib.hid hB
      have HQ := Lib.hid hq
      obtain ⟨p0, p1, p2, p3, pz⟩ := cells4 hP
      obtain ⟨t0, t1, t2, t3, tz⟩ := cells4 hT
      obtain ⟨r0, r1, r2, r3, rz⟩ := cells4 hR
      have hs0 : w.heap.size + 1 < wr.heap.size := hR.lt
      have pl := hP.lt
      have rl := hR.lt
      have tl := hT.lt
      have hws : w.heap.size < wr.heap.size := hP.lt
      clear hP hR hT hO hB hq hI
      by_cases hlt : k < n
      · have hk0 : (0 : Int) ≤ (k : Int) := by omega
        have hk1 : (k : Int) < (n : Int) := by omega
        obtain ⟨bb, off, ha, hcc⟩ := HS.out.ents.2.2 (by omega)
        subst ha
        have cc := hcc k (by rw [← HN.out]; exact hlt)
        obtain ⟨x, hx⟩ : ∃ x, x = t.ents.getD k default := ⟨_, rfl⟩
        rw [← hx] at cc
        have c0 := keep HB.out cc.1.1.1
        have c1 := keep HB.out cc.1.1.2
        have c2 := keep HB.out cc.1.2
        have c3 := keep HB.out cc.2
        have hcap := HS.out.ents.1.2
        obtain ⟨y, b, hyb⟩ : ∃ y b, lastP t.ents x.key (t.mark) = (y, b) := ⟨_, _, rfl⟩
        have HYB := Lib.hid hyb
        have HF := Lib.hid (show (t.ents.take (k + 1)).filter (keptR (t.mark) t.ents) = (t.ents.take k).filter (keptR (t.mark) t.ents) ++ (if keptR (t.mark) t.ents x then [x] else []) by
          rw [take_succ_ent (by rw [← HN.out]; exact hlt), List.filter_append, ← hx]
          congr 1
          by_cases h : keptR (t.mark) t.ents x = true <;> simp [h])
        have HKR := Lib.hid (show keptR (t.mark) t.ents x = (decide ((t.mark) ≤ x.off) || decide (y.off = x.off)) by rw [keptR, hyb])
        clear hcc cc hx hyb
        go_wp2_with fail
        refine Calls.mono (last_any x.key (t.mark) (l := t.ents) ?_ (by rw [← HN.out]; exact HLE.out) HYB.out) ?_
        · exact HS.out.below entCells_len (by repeat (first | (with_reducible exact HB.out) | (with_reducible exact Below.refl _ _) | (with_reducible apply Below.drew) | (with_reducible apply below_alloc) | ((with_reducible refine Below.alloc ?_ ?_ _); rotate_left; focus (first | (simp; done) | (simp; omega) | omega)) | ((with_reducible refine Below.setCell ?_ ?_ _); rotate_left; focus (first | (simp; done) | (simp; omega) | omega))))
        rintro e w5 ⟨rfl, hb⟩
        replace HB : Hid (Below w.heap.size w _) := below_step (by repeat (first | (with_reducible exact HB.out) | (with_reducible exact Below.refl _ _) | (with_reducible apply Below.drew) | (with_reducible apply below_alloc) | ((with_reducible refine Below.alloc ?_ ?_ _); rotate_left; focus (first | (simp; done) | (simp; omega) | omega)) | ((with_reducible refine Below.setCell ?_ ?_ _); rotate_left; focus (first | (simp; done) | (simp; omega) | omega)))) hb
        clear p0 p1 p2 p3 pz pl
        replace HP : Hid (Blk _ (w.heap.size) _ _) := Blk.step (by repeat (first | (with_reducible exact HP.out) | ((with_reducible apply Blk.new); focus (first | rfl | (simp; done) | (simp; omega))) | (with_reducible apply Blk.drew) | (with_reducible apply Blk.alloc) | (with_reducible apply Blk.set_) | ((with_reducible apply Blk.far); rotate_left; focus (first | (simp; done) | (simp; omega) | omega)))) hb
        obtain ⟨p0, p1, p2, p3, pz⟩ := cells4 HP.out
        have pl := Blk.lt HP.out
        clear r0 r1 r2 r3 rz rl
        replace HR : Hid (Blk _ (w.heap.size + 1) _ _) := Blk.step (by repeat (first | (with_reducible exact HR.out) | ((with_reducible apply Blk.new); focus (first | rfl | (simp; done) | (simp; omega))) | (with_reducible apply Blk.drew) | (with_reducible apply Blk.alloc) | (with_reducible apply Blk.set_) | ((with_reducible apply Blk.far); rotate_left; focus (first | (simp; done) | (simp; omega) | omega)))) hb
        obtain ⟨r0, r1, r2, r3, rz⟩ := cells4 HR.out
        have rl := Blk.lt HR.out
        clear t0 t1 t2 t3 tz tl
        replace HT : Hid (Blk _ (w2.heap.size) _ _) := Blk.step (by repeat (first | (with_reducible exact HT.out) | ((with_reducible apply Blk.new); focus (first | rfl | (simp; done) | (simp; omega))) | (with_reducible apply Blk.drew) | (with_reducible apply Blk.alloc) | (with_reducible apply Blk.set_) | ((with_reducible apply Blk.far); rotate_left; focus (first | (simp; done) | (simp; omega) | omega)))) hb
        obtain ⟨t0, t1, t2, t3, tz⟩ := cells4 HT.out
        have tl := Blk.lt HT.out
        have X : Blk _ (wr.heap.size) _ _ := Blk.step (by repeat (first | ((with_reducible apply Blk.new); focus (first | rfl | (simp; done) | (simp; omega))) | (with_reducible apply Blk.drew) | (with_reducible apply Blk.alloc) | (with_reducible apply Blk.set_) | ((with_reducible apply Blk.far); rotate_left; focus (first | (simp; done) | (simp; omega) | omega)))) hb
        obtain ⟨x0, x1, x2, x3, xz⟩ := cells4 X
        have xl := Blk.lt X
        have HX := Lib.hid X
        clear X
        have HO5 : Hid (OwnE w5 (w2.heap.size + 1) _ _) := own_step (by repeat (first | (with_reducible exact HO.out) | (with_reducible apply own_drew) | (with_reducible apply own_alloc) | ((with_reducible apply own_set); rotate_left; focus (first | (simp; done) | (simp; omega) | omega)))) hb
        clear hb
        have hw5 : w.heap.size < w5.heap.size := HP.out.lt
        have hz5 : w2.heap.size + 1 ≤ w5.heap.size := HT.out.lt
        have hq6 := HQ.out
        have hql : q ≤ 1000000 := by
          have h0 := List.length_filter_le (keptR (t.mark) t.ents) (t.ents.take k)
          rw [← hq6, List.length_take] at h0
          have := HLE.out
          omega
        have HQL := Lib.hid hql
        obtain ⟨E, hE⟩ : ∃ E, E = (t.ents.take k).filter (keptR (t.mark) t.ents) := ⟨_, rfl⟩
        rw [← hE] at HO5 hq6 HF
        have HQE := Lib.hid hq6
        clear hq6 hE hql
        have push : ∀ (kk : keptR (t.mark) t.ents x = true) (v' : Value) (w6 : World), w6.ownsRow (w2.heap.size + 1) 29 4 v' (E.length + 1) (E.flatMap entCells ++ entCells x) → ((w5.alloc (.cells #[.int .i64 y.off, .int .i64 y.id, .string y.key, .string y.body] 29)).alloc (.cells #[.int .i64 x.off, .int .i64 x.id, .string x.key, .string x.body] 29)).grownBy w6 (Value.slice al q capl).ownBlock →
            ∃ a6 cap6, v' = .slice a6 (q + 1) cap6 ∧ RcI w t (t.mark) (some ⟨bb, off, none⟩) n cap w2.heap.size (k + 1) a6 (q + 1) cap6 (w6.setCell ⟨w2.heap.size, 3, none⟩ (.slice a6 (q + 1) cap6)) ∧ Blk w6 w2.heap.size 72 [.int .i64 t.base, .int .i64 t.next, .int .i64 (t.mark), .slice al q capl] := by
          intro kk v' w6 ho hg
          have ho' : OwnE w6 (w2.heap.size + 1) v' (E ++ [x]) := by
            show w6.ownsRow _ _ _ _ _ _
            simpa [List.flatMap_append] using ho
          obtain ⟨a6, cap6, hv⟩ := own_shape ho'
          have hlen : (E ++ [x]).length = q + 1 := by rw [List.length_append, HQE.out]; rfl
          rw [hlen] at hv
          subst hv
          have hf := HF.out
          rw [kk, if_pos rfl] at hf
          have ne : ∀ g, g < w2.heap.size + 1 → (Value.slice al q capl).ownBlock ≠ some g := fun g hg e => by have := (HO5.out.lt _ e).1; omega
          have hT6 := ((HT.out.alloc _).alloc _).grown hg (ne _ (by omega))
          refine ⟨a6, cap6, rfl, ⟨⟨(((HP.out.alloc _).alloc _).grown hg (ne _ (by omega))).far (by omega) _, (((HR.out.alloc _).alloc _).grown hg (ne _ (by omega))).far (by omega) _⟩, ⟨by rw [hf, hlen], ?_, ?_⟩, ?_⟩, hT6⟩
          · have := hT6.set_ 3 (.slice a6 (q + 1) cap6)
            simpa only [List.set_cons_zero, List.set_cons_succ] using this
          · rw [hf]
            exact own_set ho' (by omega)
          · exact Below.setCell (p := ⟨w2.heap.size, 3, none⟩) ((below_alloc (below_alloc HB.out)).grown hg (by have := HB.out.size; simp; omega) (fun j e => by have := (HO5.out.lt j e).1; omega)) (by simp; omega) _
        have PUSH := Lib.hid push
        clear push
        by_cases hge : t.mark ≤ x.off
        · have hnl : ¬ x.off < t.mark := by omega
          have HKT := Lib.hid (show keptR (t.mark) t.ents x = true by rw [HKR.out]; simp; omega)
          go_wp2_with (at_builtin; go_must (refine wpList_append_own _ rfl _ _ 70 rfl (w2.heap.size + 1) 29 i0 _ 4 48 Try.underlying70 hi hz0 hz1 hz2 rfl (by decide) _ _ _ rfl (own_alloc (own_alloc HO5.out)) ⟨w5.heap.size + 1, 0, none⟩ 1 1 (entCells x) rfl rfl ?_ (by intro v hv; simp [entCells] at hv; rcases hv with rfl | rfl | rfl | rfl <;> rfl) (by have := HQL.out; have := HQE.out; unfold maxLen; omega) (by have := HQL.out; have := HQE.out; omega) (by simp; omega) ?_))
          · exact news_ent x (by simp)
          · intro v' w6 hown6 hgrow _
            obtain ⟨a6, cap6, rfl, hI6, hT6⟩ := PUSH.out HKT.out v' w6 hown6 hgrow
            obtain ⟨t0, t1, t2, t3, tz⟩ := cells4 hT6
            have HI6 := Lib.hid hI6
            clear hown6 hgrow hI6 hT6
            go_wp2_with fail
            go_roundg (n - (k + 1))
            case measure => omega
            case rel => exact ⟨k + 1, q + 1, a6, cap6, by omega, rfl, by go_num, HI6.out⟩
        · have hnl : x.off < t.mark := by omega
          by_cases hyx : y.off = x.off
          · have HKT := Lib.hid (show keptR (t.mark) t.ents x = true by rw [HKR.out, hyx]; simp)
            have hyx2 : (y.off == x.off) = true := by simpa using hyx
            clear hyx
            go_wp2_with (at_builtin; go_must (refine wpList_append_own _ rfl _ _ 70 rfl (w2.heap.size + 1) 29 i0 _ 4 48 Try.underlying70 hi hz0 hz1 hz2 rfl (by decide) _ _ _ rfl (own_alloc (own_alloc HO5.out)) ⟨w5.heap.size + 1, 0, none⟩ 1 1 (entCells x) rfl rfl ?_ (by intro v hv; simp [entCells] at hv; rcases hv with rfl | rfl | rfl | rfl <;> rfl) (by have := HQL.out; have := HQE.out; unfold maxLen; omega) (by have := HQL.out; have := HQE.out; omega) (by simp; omega) ?_))
            · exact news_ent x (by simp)
            · intro v' w6 hown6 hgrow _
              obtain ⟨a6, cap6, rfl, hI6, hT6⟩ := PUSH.out HKT.out v' w6 hown6 hgrow
              obtain ⟨t0, t1, t2, t3, tz⟩ := cells4 hT6
              have HI6 := Lib.hid hI6
              clear hown6 hgrow hI6 hT6
              go_wp2_with fail
              go_roundg (n - (k + 1))
              case measure => omega
              case rel => exact ⟨k + 1, q + 1, a6, cap6, by omega, rfl, by go_num, HI6.out⟩
          · have HKT := Lib.hid (show keptR (t.mark) t.ents x = false by rw [HKR.out]; simp; omega)
            have hyx2 : (y.off == x.off) = false := by simpa using hyx
            clear hyx
            go_wp2_with fail
            go_roundg (n - (k + 1))
            case measure => omega
            case rel =>
              refine ⟨k + 1, q, al, capl, by omega, rfl, by go_num, ⟨HP.out.alloc _, HR.out.alloc _⟩, ⟨?_, HT.out.alloc _, ?_⟩, below_alloc HB.out⟩
              · rw [HF.out, HKT.out]
                simp [HQE.out]
              · rw [HF.out, HKT.out]
                simpa using own_alloc HO5.out
      · obtain rfl : k = n := by omega
        have hlt' : ¬ (k : Int) < (k : Int) := by omega
        have HFIN := Lib.hid (show (t.ents.take k).filter (keptR (t.mark) t.ents) = refC (t.mark) t.ents by rw [HN.out, List.take_length, refC])
        go_wp2_with fail
        refine bodyPost_ret (v := .tuple #[.agg #[.int .i64 t.base, .int .i64 t.next, .int .i64 (t.mark), .slice al q capl], .int .i64 0]) (by simp [results, Try.results58, go_sem, r0, r1, r2, r3]) rfl ?_
        have hq := HQ.out
        have ho := HO.out
        rw [HFIN.out] at hq ho
        subst hq
        refine ⟨al, capl, rfl, ?_, ?_⟩
        · exact own_base (own_set (own_set (own_set (own_set ho (by omega)) (by omega)) (by omega)) (by omega)) (by omega)
        · repeat (first | (with_reducible exact HB.out) | (with_reducible exact Below.refl _ _) | (with_reducible apply Below.drew) | (with_reducible apply below_alloc) | ((with_reducible refine Below.alloc ?_ ?_ _); rotate_left; focus (first | (simp; done) | (simp; omega) | omega)) | ((with_reducible refine Below.setCell ?_ ?_ _); rotate_left; focus (first | (simp; done) | (simp; omega) | omega)))
  · go_enter Try.func58, Try.ntmps58
    go_wp2_with fail
    refine Calls.mono (may17_any (t := t) ?_) ?_
    · exact T.out.below (by repeat (first | (with_reducible exact Below.refl _ _) | (with_reducible exact Below.refl _ _) | (with_reducible apply Below.drew) | (with_reducible apply below_alloc) | ((with_reducible refine Below.alloc ?_ ?_ _); rotate_left; focus (first | (simp; done) | (simp; omega) | omega)) | ((with_reducible refine Below.setCell ?_ ?_ _); rotate_left; focus (first | (simp; done) | (simp; omega) | omega))))
    rw [decide_eq_true HM.out]
    rintro e w2 ⟨rfl, hb⟩
    have HB : Hid (Below w.heap.size w _) := below_step (by repeat (first | (with_reducible exact Below.refl _ _) | (with_reducible exact Below.refl _ _) | (with_reducible apply Below.drew) | (with_reducible apply below_alloc) | ((with_reducible refine Below.alloc ?_ ?_ _); rotate_left; focus (first | (simp; done) | (simp; omega) | omega)) | ((with_reducible refine Below.setCell ?_ ?_ _); rotate_left; focus (first | (simp; done) | (simp; omega) | omega)))) hb
    have P : Blk _ (w.heap.size) _ _ := Blk.step (by repeat (first | ((with_reducible apply Blk.new); focus (first | rfl | (simp; done) | (simp; omega))) | (with_reducible apply Blk.drew) | (with_reducible apply Blk.alloc) | (with_reducible apply Blk.set_) | ((with_reducible apply Blk.far); rotate_left; focus (first | (simp; done) | (simp; omega) | omega)))) hb
    obtain ⟨p0, p1, p2, p3, pz⟩ := cells4 P
    have pl := Blk.lt P
    have HP := Lib.hid P
    clear P
    have R : Blk _ (w.heap.size + 1) _ _ := Blk.step (by repeat (first | ((with_reducible apply Blk.new); focus (first | rfl | (simp; done) | (simp; omega))) | (with_reducible apply Blk.drew) | (with_reducible apply Blk.alloc) | (with_reducible apply Blk.set_) | ((with_reducible apply Blk.far); rotate_left; focus (first | (simp; done) | (simp; omega) | omega)))) hb
    obtain ⟨r0, r1, r2, r3, rz⟩ := cells4 R
    have rl := Blk.lt R
    have HR := Lib.hid R
    clear R
    have s2 : w.heap.size + 2 ≤ w2.heap.size := rl
    clear hb
    go_wp2_with fail
    go_loopg [7] n (fun g i wr => ∃ (k q : Nat) (al : Option Addr) (capl : Nat), k ≤ n ∧ g = n - k ∧ i = .int .i64 (k : Int) ∧ Hid (RcI w t (m) a n cap w2.heap.size k al q capl wr))
    case atStart =>
      refine ⟨0, 0, none, 0, Nat.zero_le _, rfl, rfl, ⟨?_, ?_⟩, ⟨rfl, ?_, ?_⟩, ?_⟩
      · repeat (first | (with_reducible exact HP.out) | ((with_reducible apply Blk.new); focus (first | rfl | (simp; done) | (simp; omega))) | (with_reducible apply Blk.drew) | (with_reducible apply Blk.alloc) | (with_reducible apply Blk.set_) | ((with_reducible apply Blk.far); rotate_left; focus (first | (simp; done) | (simp; omega) | omega)))
      · repeat (first | (with_reducible exact HR.out) | ((with_reducible apply Blk.new); focus (first | rfl | (simp; done) | (simp; omega))) | (with_reducible apply Blk.drew) | (with_reducible apply Blk.alloc) | (with_reducible apply Blk.set_) | ((with_reducible apply Blk.far); rotate_left; focus (first | (simp; done) | (simp; omega) | omega)))
      · exact Blk.new rfl
      · exact World.ownsRow_nil _ _ _ _
      · show Below _ _ _
        repeat (first | (with_reducible exact HB.out) | (with_reducible exact Below.refl _ _) | (with_reducible apply Below.drew) | (with_reducible apply below_alloc) | ((with_reducible refine Below.alloc ?_ ?_ _); rotate_left; focus (first | (simp; done) | (simp; omega) | omega)) | ((with_reducible refine Below.setCell ?_ ?_ _); rotate_left; focus (first | (simp; done) | (simp; omega) | omega)))
    case round =>
      clear HB HP HR p0 p1 p2 p3 pz pl r0 r1 r2 r3 rz rl
      obtain ⟨k, q, al, capl, hk, rfl, rfl, hI⟩ := hrel
      have HI := Lib.hid hI.out
      obtain ⟨⟨hP, hR⟩, ⟨hq, hT, hO⟩, hB⟩ := hI.out
      have HP := Lib.hid hP
      have HR := Lib.hid hR
      have HT := Lib.hid hT
      have HO := Lib.hid hO
      have HB := Lib.hid hB
      have HQ := Lib.hid hq
      obtain ⟨p0, p1, p2, p3, pz⟩ := cells4 hP
      obtain ⟨t0, t1, t2, t3, tz⟩ := cells4 hT
      obtain ⟨r0, r1, r2, r3, rz⟩ := cells4 hR
      have hs0 : w.heap.size + 1 < wr.heap.size := hR.lt
      have pl := hP.lt
      have rl := hR.lt
      have tl := hT.lt
      have hws : w.heap.size < wr.heap.size := hP.lt
      clear hP hR hT hO hB hq hI
      by_cases hlt : k < n
      · have hk0 : (0 : Int) ≤ (k : Int) := by omega
        have hk1 : (k : Int) < (n : Int) := by omega
        obtain ⟨bb, off, ha, hcc⟩ := HS.out.ents.2.2 (by omega)
        subst ha
        have cc := hcc k (by rw [← HN.out]; exact hlt)
        obtain ⟨x, hx⟩ : ∃ x, x = t.ents.getD k default := ⟨_, rfl⟩
        rw [← hx] at cc
        have c0 := keep HB.out cc.1.1.1
        have c1 := keep HB.out cc.1.1.2
        have c2 := keep HB.out cc.1.2
        have c3 := keep HB.out cc.2
        have hcap := HS.out.ents.1.2
        obtain ⟨y, b, hyb⟩ : ∃ y b, lastP t.ents x.key (m) = (y, b) := ⟨_, _, rfl⟩
        have HYB := Lib.hid hyb
        have HF := Lib.hid (show (t.ents.take (k + 1)).filter (keptR (m) t.ents) = (t.ents.take k).filter (keptR (m) t.ents) ++ (if keptR (m) t.ents x then [x] else []) by
          rw [take_succ_ent (by rw [← HN.out]; exact hlt), List.filter_append, ← hx]
          congr 1
          by_cases h : keptR (m) t.ents x = true <;> simp [h])
        have HKR := Lib.hid (show keptR (m) t.ents x = (decide ((m) ≤ x.off) || decide (y.off = x.off)) by rw [keptR, hyb])
        clear hcc cc hx hyb
        go_wp2_with fail
        refine Calls.mono (last_any x.key (m) (l := t.ents) ?_ (by rw [← HN.out]; exact HLE.out) HYB.out) ?_
        · exact HS.out.below entCells_len (by repeat (first | (with_reducible exact HB.out) | (with_reducible exact Below.refl _ _) | (with_reducible apply Below.drew) | (with_reducible apply below_alloc) | ((with_reducible refine Below.alloc ?_ ?_ _); rotate_left; focus (first | (simp; done) | (simp; omega) | omega)) | ((with_reducible refine Below.setCell ?_ ?_ _); rotate_left; focus (first | (simp; done) | (simp; omega) | omega))))
        rintro e w5 ⟨rfl, hb⟩
        replace HB : Hid (Below w.heap.size w _) := below_step (by repeat (first | (with_reducible exact HB.out) | (with_reducible exact Below.refl _ _) | (with_reducible apply Below.drew) | (with_reducible apply below_alloc) | ((with_reducible refine Below.alloc ?_ ?_ _); rotate_left; focus (first | (simp; done) | (simp; omega) | omega)) | ((with_reducible refine Below.setCell ?_ ?_ _); rotate_left; focus (first | (simp; done) | (simp; omega) | omega)))) hb
        clear p0 p1 p2 p3 pz pl
        replace HP : Hid (Blk _ (w.heap.size) _ _) := Blk.step (by repeat (first | (with_reducible exact HP.out) | ((with_reducible apply Blk.new); focus (first | rfl | (simp; done) | (simp; omega))) | (with_reducible apply Blk.drew) | (with_reducible apply Blk.alloc) | (with_reducible apply Blk.set_) | ((with_reducible apply Blk.far); rotate_left; focus (first | (simp; done) | (simp; omega) | omega)))) hb
        obtain ⟨p0, p1, p2, p3, pz⟩ := cells4 HP.out
        have pl := Blk.lt HP.out
        clear r0 r1 r2 r3 rz rl
        replace HR : Hid (Blk _ (w.heap.size + 1) _ _) := Blk.step (by repeat (first | (with_reducible exact HR.out) | ((with_reducible apply Blk.new); focus (first | rfl | (simp; done) | (simp; omega))) | (with_reducible apply Blk.drew) | (with_reducible apply Blk.alloc) | (with_reducible apply Blk.set_) | ((with_reducible apply Blk.far); rotate_left; focus (first | (simp; done) | (simp; omega) | omega)))) hb
        obtain ⟨r0, r1, r2, r3, rz⟩ := cells4 HR.out
        have rl := Blk.lt HR.out
        clear t0 t1 t2 t3 tz tl
        replace HT : Hid (Blk _ (w2.heap.size) _ _) := Blk.step (by repeat (first | (with_reducible exact HT.out) | ((with_reducible apply Blk.new); focus (first | rfl | (simp; done) | (simp; omega))) | (with_reducible apply Blk.drew) | (with_reducible apply Blk.alloc) | (with_reducible apply Blk.set_) | ((with_reducible apply Blk.far); rotate_left; focus (first | (simp; done) | (simp; omega) | omega)))) hb
        obtain ⟨t0, t1, t2, t3, tz⟩ := cells4 HT.out
        have tl := Blk.lt HT.out
        have X : Blk _ (wr.heap.size) _ _ := Blk.step (by repeat (first | ((with_reducible apply Blk.new); focus (first | rfl | (simp; done) | (simp; omega))) | (with_reducible apply Blk.drew) | (with_reducible apply Blk.alloc) | (with_reducible apply Blk.set_) | ((with_reducible apply Blk.far); rotate_left; focus (first | (simp; done) | (simp; omega) | omega)))) hb
        obtain ⟨x0, x1, x2, x3, xz⟩ := cells4 X
        have xl := Blk.lt X
        have HX := Lib.hid X
        clear X
        have HO5 : Hid (OwnE w5 (w2.heap.size + 1) _ _) := own_step (by repeat (first | (with_reducible exact HO.out) | (with_reducible apply own_drew) | (with_reducible apply own_alloc) | ((with_reducible apply own_set); rotate_left; focus (first | (simp; done) | (simp; omega) | omega)))) hb
        clear hb
        have hw5 : w.heap.size < w5.heap.size := HP.out.lt
        have hz5 : w2.heap.size + 1 ≤ w5.heap.size := HT.out.lt
        have hq6 := HQ.out
        have hql : q ≤ 1000000 := by
          have h0 := List.length_filter_le (keptR (m) t.ents) (t.ents.take k)
          rw [← hq6, List.length_take] at h0
          have := HLE.out
          omega
        have HQL := Lib.hid hql
        obtain ⟨E, hE⟩ : ∃ E, E = (t.ents.take k).filter (keptR (m) t.ents) := ⟨_, rfl⟩
        rw [← hE] at HO5 hq6 HF
        have HQE := Lib.hid hq6
        clear hq6 hE hql
        have push : ∀ (kk : keptR (m) t.ents x = true) (v' : Value) (w6 : World), w6.ownsRow (w2.heap.size + 1) 29 4 v' (E.length + 1) (E.flatMap entCells ++ entCells x) → ((w5.alloc (.cells #[.int .i64 y.off, .int .i64 y.id, .string y.key, .string y.body] 29)).alloc (.cells #[.int .i64 x.off, .int .i64 x.id, .string x.key, .string x.body] 29)).grownBy w6 (Value.slice al q capl).ownBlock →
            ∃ a6 cap6, v' = .slice a6 (q + 1) cap6 ∧ RcI w t (m) (some ⟨bb, off, none⟩) n cap w2.heap.size (k + 1) a6 (q + 1) cap6 (w6.setCell ⟨w2.heap.size, 3, none⟩ (.slice a6 (q + 1) cap6)) ∧ Blk w6 w2.heap.size 72 [.int .i64 t.base, .int .i64 t.next, .int .i64 (m), .slice al q capl] := by
          intro kk v' w6 ho hg
          have ho' : OwnE w6 (w2.heap.size + 1) v' (E ++ [x]) := by
            show w6.ownsRow _ _ _ _ _ _
            simpa [List.flatMap_append] using ho
          obtain ⟨a6, cap6, hv⟩ := own_shape ho'
          have hlen : (E ++ [x]).length = q + 1 := by rw [List.length_append, HQE.out]; rfl
          rw [hlen] at hv
          subst hv
          have hf := HF.out
          rw [kk, if_pos rfl] at hf
          have ne : ∀ g, g < w2.heap.size + 1 → (Value.slice al q capl).ownBlock ≠ some g := fun g hg e => by have := (HO5.out.lt _ e).1; omega
          have hT6 := ((HT.out.alloc _).alloc _).grown hg (ne _ (by omega))
          refine ⟨a6, cap6, rfl, ⟨⟨(((HP.out.alloc _).alloc _).grown hg (ne _ (by omega))).far (by omega) _, (((HR.out.alloc _).alloc _).grown hg (ne _ (by omega))).far (by omega) _⟩, ⟨by rw [hf, hlen], ?_, ?_⟩, ?_⟩, hT6⟩
          · have := hT6.set_ 3 (.slice a6 (q + 1) cap6)
            simpa only [List.set_cons_zero, List.set_cons_succ] using this
          · rw [hf]
            exact own_set ho' (by omega)
          · exact Below.setCell (p := ⟨w2.heap.size, 3, none⟩) ((below_alloc (below_alloc HB.out)).grown hg (by have := HB.out.size; simp; omega) (fun j e => by have := (HO5.out.lt j e).1; omega)) (by simp; omega) _
        have PUSH := Lib.hid push
        clear push
        by_cases hge : m ≤ x.off
        · have hnl : ¬ x.off < m := by omega
          have HKT := Lib.hid (show keptR (m) t.ents x = true by rw [HKR.out]; simp; omega)
          go_wp2_with (at_builtin; go_must (refine wpList_append_own _ rfl _ _ 70 rfl (w2.heap.size + 1) 29 i0 _ 4 48 Try.underlying70 hi hz0 hz1 hz2 rfl (by decide) _ _ _ rfl (own_alloc (own_alloc HO5.out)) ⟨w5.heap.size + 1, 0, none⟩ 1 1 (entCells x) rfl rfl ?_ (by intro v hv; simp [entCells] at hv; rcases hv with rfl | rfl | rfl | rfl <;> rfl) (by have := HQL.out; have := HQE.out; unfold maxLen; omega) (by have := HQL.out; have := HQE.out; omega) (by simp; omega) ?_))
          · exact news_ent x (by simp)
          · intro v' w6 hown6 hgrow _
            obtain ⟨a6, cap6, rfl, hI6, hT6⟩ := PUSH.out HKT.out v' w6 hown6 hgrow
            obtain ⟨t0, t1, t2, t3, tz⟩ := cells4 hT6
            have HI6 := Lib.hid hI6
            clear hown6 hgrow hI6 hT6
            go_wp2_with fail
            go_roundg (n - (k + 1))
            case measure => omega
            case rel => exact ⟨k + 1, q + 1, a6, cap6, by omega, rfl, by go_num, HI6.out⟩
        · have hnl : x.off < m := by omega
          by_cases hyx : y.off = x.off
          · have HKT := Lib.hid (show keptR (m) t.ents x = true by rw [HKR.out, hyx]; simp)
            have hyx2 : (y.off == x.off) = true := by simpa using hyx
            clear hyx
            go_wp2_with (at_builtin; go_must (refine wpList_append_own _ rfl _ _ 70 rfl (w2.heap.size + 1) 29 i0 _ 4 48 Try.underlying70 hi hz0 hz1 hz2 rfl (by decide) _ _ _ rfl (own_alloc (own_alloc HO5.out)) ⟨w5.heap.size + 1, 0, none⟩ 1 1 (entCells x) rfl rfl ?_ (by intro v hv; simp [entCells] at hv; rcases hv with rfl | rfl | rfl | rfl <;> rfl) (by have := HQL.out; have := HQE.out; unfold maxLen; omega) (by have := HQL.out; have := HQE.out; omega) (by simp; omega) ?_))
            · exact news_ent x (by simp)
            · intro v' w6 hown6 hgrow _
              obtain ⟨a6, cap6, rfl, hI6, hT6⟩ := PUSH.out HKT.out v' w6 hown6 hgrow
              obtain ⟨t0, t1, t2, t3, tz⟩ := cells4 hT6
              have HI6 := Lib.hid hI6
              clear hown6 hgrow hI6 hT6
              go_wp2_with fail
              go_roundg (n - (k + 1))
              case measure => omega
              case rel => exact ⟨k + 1, q + 1, a6, cap6, by omega, rfl, by go_num, HI6.out⟩
          · have HKT := Lib.hid (show keptR (m) t.ents x = false by rw [HKR.out]; simp; omega)
            have hyx2 : (y.off == x.off) = false := by simpa using hyx
            clear hyx
            go_wp2_with fail
            go_roundg (n - (k + 1))
            case measure => omega
            case rel =>
              refine ⟨k + 1, q, al, capl, by omega, rfl, by go_num, ⟨HP.out.alloc _, HR.out.alloc _⟩, ⟨?_, HT.out.alloc _, ?_⟩, below_alloc HB.out⟩
              · rw [HF.out, HKT.out]
                simp [HQE.out]
              · rw [HF.out, HKT.out]
                simpa using own_alloc HO5.out
      · obtain rfl : k = n := by omega
        have hlt' : ¬ (k : Int) < (k : Int) := by omega
        have HFIN := Lib.hid (show (t.ents.take k).filter (keptR (m) t.ents) = refC (m) t.ents by rw [HN.out, List.take_length, refC])
        go_wp2_with fail
        refine bodyPost_ret (v := .tuple #[.agg #[.int .i64 t.base, .int .i64 t.next, .int .i64 (m), .slice al q capl], .int .i64 0]) (by simp [results, Try.results58, go_sem, r0, r1, r2, r3]) rfl ?_
        have hq := HQ.out
        have ho := HO.out
        rw [HFIN.out] at hq ho
        subst hq
        refine ⟨al, capl, rfl, ?_, ?_⟩
        · exact own_base (own_set (own_set (own_set (own_set ho (by omega)) (by omega)) (by omega)) (by omega)) (by omega)
        · repeat (first | (with_reducible exact HB.out) | (with_reducible exact Below.refl _ _) | (with_reducible apply Below.drew) | (with_reducible apply below_alloc) | ((with_reducible refine Below.alloc ?_ ?_ _); rotate_left; focus (first | (simp; done) | (simp; omega) | omega)) | ((with_reducible refine Below.setCell ?_ ?_ _); rotate_left; focus (first | (simp; done) | (simp; omega) | omega)))

set_option maxHeartbeats 2000000 in
set_option maxRecDepth 100000 in
theorem refCom_no {v : Value} {t : Top} {w : World} (to x : Int) (h : TopR w v t) (hx : (¬ t.may ∧ x = 8) ∨ (t.may ∧ (to < 0 ∨ 0 ≤ to ∧ 1073741824 < to) ∧ x = 2)) :
    Calls Try.prog 58 #[v, .int .i64 to] w (TopEnd1 Top.zero x w) := by
  have T := Lib.hid h
  obtain ⟨a, cap, rfl, hs⟩ := h
  clear hs
  rcases hx with ⟨hm, rfl⟩ | ⟨hm, (h1 | ⟨h1, h2⟩), rfl⟩
  all_goals
    have HM := Lib.hid hm
    clear hm
    go_enter Try.func58, Try.ntmps58
    go_wp2_with fail
    refine Calls.mono (may17_any (t := t) ?_) ?_
    · exact T.out.below (by repeat (first | (with_reducible exact Below.refl _ _) | (with_reducible exact Below.refl _ _) | (with_reducible apply Below.drew) | (with_reducible apply below_alloc) | ((with_reducible refine Below.alloc ?_ ?_ _); rotate_left; focus (first | (simp; done) | (simp; omega) | omega)) | ((with_reducible refine Below.setCell ?_ ?_ _); rotate_left; focus (first | (simp; done) | (simp; omega) | omega))))
    first | rw [decide_eq_true HM.out] | rw [decide_eq_false HM.out]
    rintro e w2 ⟨rfl, hb⟩
    have HB : Hid (Below w.heap.size w _) := below_step (by repeat (first | (with_reducible exact Below.refl _ _) | (with_reducible exact Below.refl _ _) | (with_reducible apply Below.drew) | (with_reducible apply below_alloc) | ((with_reducible refine Below.alloc ?_ ?_ _); rotate_left; focus (first | (simp; done) | (simp; omega) | omega)) | ((with_reducible refine Below.setCell ?_ ?_ _); rotate_left; focus (first | (simp; done) | (simp; omega) | omega)))) hb
    have R : Blk _ (w.heap.size + 1) _ _ := Blk.step (by repeat (first | ((with_reducible apply Blk.new); focus (first | rfl | (simp; done) | (simp; omega))) | (with_reducible apply Blk.drew) | (with_reducible apply Blk.alloc) | (with_reducible apply Blk.set_) | ((with_reducible apply Blk.far); rotate_left; focus (first | (simp; done) | (simp; omega) | omega)))) hb
    obtain ⟨r0, r1, r2, r3, rz⟩ := cells4 R
    have rl := Blk.lt R
    have HR := Lib.hid R
    clear R
    clear hb
    go_wp2_with fail
    first
      | (refine bodyPost_ret (v := .tuple #[.agg #[.int .i64 0, .int .i64 0, .int .i64 0, .slice none 0 0], .int .i64 8]) (by simp [results, Try.results58, go_sem, r0, r1, r2, r3]) rfl (topEnd1_zero _ rfl ?_))
      | (refine bodyPost_ret (v := .tuple #[.agg #[.int .i64 0, .int .i64 0, .int .i64 0, .slice none 0 0], .int .i64 2]) (by simp [results, Try.results58, go_sem, r0, r1, r2, r3]) rfl (topEnd1_zero _ rfl ?_))
    repeat (first | (with_reducible exact HB.out) | (with_reducible exact Below.refl _ _) | (with_reducible apply Below.drew) | (with_reducible apply below_alloc) | ((with_reducible refine Below.alloc ?_ ?_ _); rotate_left; focus (first | (simp; done) | (simp; omega) | omega)) | ((with_reducible refine Below.setCell ?_ ?_ _); rotate_left; focus (first | (simp; done) | (simp; omega) | omega)))

theorem refCom_any {v : Value} {t u : Top} {w : World} {x : Int} (to : Int) (h : TopR w v t) (hu : compactP t to = (u, x)) :
    Calls Try.prog 58 #[v, .int .i64 to] w (TopEnd1 u x w) := by
  by_cases hm : t.may
  · by_cases ht : to < 0 ∨ 1073741824 < to
    · rw [compactP_arg hm ht] at hu
      cases hu
      exact refCom_no to 2 h (Or.inr ⟨hm, by omega, rfl⟩)
    · rw [compactP_T hm ht] at hu
      cases hu
      have := refCom_yes to h hm (by omega) (by omega)
      rwa [ref_keep _ (rises_pair (may_rises hm))] at this
  · rw [compactP_bad hm] at hu
    cases hu
    exact refCom_no to 8 h (Or.inl ⟨hm, rfl⟩)
end Go.Proofs.Ytblgmjbajnkcdaa
