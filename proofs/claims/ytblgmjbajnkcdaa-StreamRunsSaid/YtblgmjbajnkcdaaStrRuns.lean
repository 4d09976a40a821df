/-
  The walk of StreamRuns: offsets are dense, consumers never fall, and are never beyond the end. No condition.
-/
import Derived.Test.YtblgmjbajnkcdaaStrDo
import Derived.Test.YtblgmjbajnkcdaaLaw
import Derived.Test.YtblgmjbajnkcdaaStrTwo
import Derived.Test.YtblgmjbajnkcdaaStrGet
import Derived.Test.YtblgmjbajnkcdaaStrRunP
import Derived.Test.YtblgmjbajnkcdaaStrTy
import Derived.Test.YtblgmjbajnkcdaaCmd
import Derived.KernelRfl
import Derived.Deep.LoopGhost
import Derived.Deep.CutRange
namespace Go.Proofs.Ytblgmjbajnkcdaa.StrRuns
open Go.RowKit

/-- What stands at the head of a round. -/
def Inv (w : World) (g : Nat) (st : Str) (wr : World) : Prop :=
  ∃ (a : Option Addr) (cap : Nat) (b : Option Addr) (nc cc : Nat), OwnS wr w.heap.size (.agg #[.slice a st.tops.length cap, .slice b nc cc]) st ∧ (Blk wr g 25 [.slice a st.tops.length cap, .slice b nc cc] ∧ Blk wr (g + 1) 46 (endsC st)) ∧ Below w.heap.size w wr

/-- A command among commands, as the walk spells it. -/
def CmdAt (w : World) (b o : Nat) (c : Cmd) : Prop :=
  ((w.cell? ⟨b, o, none⟩ = some (.int .u8 c.kind) ∧ w.cell? ⟨b, o + 1, none⟩ = some (.int .i64 c.msg.id) ∧ w.cell? ⟨b, o + 2, none⟩ = some (.slice c.msg.ga c.msg.gn c.msg.gc) ∧ w.cell? ⟨b, o + 3, none⟩ = some (.int .i64 c.msg.topic)) ∧
    (w.cell? ⟨b, o + 4, none⟩ = some (.string c.msg.key) ∧ w.cell? ⟨b, o + 5, none⟩ = some (.string c.msg.body))) ∧
  ((w.cell? ⟨b, o + 6, none⟩ = some (.int .i64 c.id) ∧ w.cell? ⟨b, o + 7, none⟩ = some (.int .i64 c.time) ∧ w.cell? ⟨b, o + 8, none⟩ = some (.slice c.ma c.mn c.mc)) ∧ w.cell? ⟨b, o + 9, none⟩ = some (.int .i64 c.topic) ∧ w.cell? ⟨b, o + 10, none⟩ = some (.int .i64 c.who) ∧ w.cell? ⟨b, o + 11, none⟩ = some (.int .i64 c.n))
theorem cmd_at {w : World} {v : Value} {l : List Cmd} (h : SliceR w v 12 cmdCells l) : ∃ a cap, v = .slice a l.length cap ∧ (l.length ≤ cap ∧ cap ≤ maxLen) ∧ (0 < l.length → ∃ b off, a = some ⟨b, off, none⟩ ∧ ∀ i, i < l.length → CmdAt w b (off + i * 12) (l.getD i default)) := by
  obtain ⟨a, cap, h1, h2, h3, h4, h5⟩ := h
  refine ⟨a, cap, h1, ⟨h2, h3⟩, fun hl => ?_⟩
  obtain ⟨b, off, ha, hd⟩ := h5 hl
  refine ⟨b, off, ha, fun i hi => ?_⟩
  rw [getD_lt hi]
  have c := fun j (hj : j < 12) => hd i hi j hj
  simp only [← Nat.add_assoc] at c
  refine ⟨⟨⟨c 0 (by omega), c 1 (by omega), c 2 (by omega), c 3 (by omega)⟩, c 4 (by omega), c 5 (by omega)⟩, ⟨c 6 (by omega), c 7 (by omega), c 8 (by omega)⟩, c 9 (by omega), c 10 (by omega), c 11 (by omega)⟩
theorem CmdAt.keep {w w' : World} {b o : Nat} {c : Cmd} (h : CmdAt w b o c) (hb : Below w.heap.size w w') : CmdAt w' b o c := by
  obtain ⟨⟨⟨h0, h1, h2, h3⟩, h4, h5⟩, ⟨h6, h7, h8⟩, h9, h10, h11⟩ := h
  have k := fun {a : Addr} {v : Value} (h : w.cell? a = some v) => Go.Proofs.Ytblgmjbajnkcdaa.keep hb h
  exact ⟨⟨⟨k h0, k h1, k h2, k h3⟩, k h4, k h5⟩, ⟨k h6, k h7, k h8⟩, k h9, k h10, k h11⟩

set_option maxHeartbeats 16000000 in
set_option maxRecDepth 100000 in
theorem strRuns {v : Value} {l : List Cmd} {w : World} (h : SliceR w v 12 cmdCells l) (ok : ∀ c ∈ l, cmdOk c) : Calls Try.prog 4 #[v] w (LawEnd w) := by
  obtain ⟨a, cap, rfl, ⟨hcap, hmx⟩, hd⟩ := cmd_at h
  have HD := Lib.hid hd
  have OK := Lib.hid ok
  obtain ⟨n, hn⟩ : ∃ n, n = l.length := ⟨_, rfl⟩
  rw [← hn] at HD hcap ⊢
  have HN := Lib.hid hn
  clear h ok hd hn
  unfold maxLen at hmx
  have hl0 : (n : Int) ≤ 9223372036854775807 := by omega
  have KN := Lib.hid (keysS_of_may may_newS)
  go_enter Try.func4, Try.ntmps4
  go_wp2_with fail
  refine Calls.mono (strAlive_any _) ?_
  rintro e w1 ⟨rfl, hb⟩
  have HB : Hid (Below w.heap.size w _) := below_step (by repeat (first | (with_reducible exact Below.refl _ _) | (with_reducible exact Below.refl _ _) | (with_reducible apply Below.drew) | (with_reducible apply below_alloc) | ((with_reducible refine Below.alloc ?_ ?_ _); rotate_left; focus (first | (simp; done) | (simp; omega) | omega)) | ((with_reducible refine Below.setCell ?_ ?_ _); rotate_left; focus (first | (simp; done) | (simp; omega) | omega)))) hb
  clear hb
  by_cases h60 : (60 : Int) < (n : Int)
  · go_wp2_with fail
    go_ret
    exact ⟨rfl, HB.out⟩
  go_wp2_with fail
  refine Calls.mono (strNew_any _) ?_
  rintro e w2 ⟨ta, tc, rfl, os, hb⟩
  obtain ⟨a2, cap2, b2, nc2, cc2, ev, -, -⟩ := os.reads.shape
  cases ev
  have HB0 := HB.out.size
  replace HB : Hid (Below w.heap.size w _) := below_step (by repeat (first | (with_reducible exact HB.out) | (with_reducible exact Below.refl _ _) | (with_reducible apply Below.drew) | (with_reducible apply below_alloc) | ((with_reducible refine Below.alloc ?_ ?_ _); rotate_left; focus (first | (simp; done) | (simp; omega) | omega)) | ((with_reducible refine Below.setCell ?_ ?_ _); rotate_left; focus (first | (simp; done) | (simp; omega) | omega)))) hb
  have S2 : Hid (OwnS w2 w.heap.size _ newS) := Lib.hid (os.le HB0)
  have HS2 := Lib.hid HB.out.size
  clear hb os HB0
  go_wp2_with fail
  go_loopg [7] n (fun g i wr => ∃ (k : Nat) (st : Str) (fl : List Int), k ≤ n ∧ g = n - k ∧ i = .int .i64 (k : Int) ∧ Hid (mayS st) ∧ Hid (FarP 32 fl st.coms) ∧ Hid (Inv w w2.heap.size st wr) ∧ Hid (Blk wr (w2.heap.size + 1 + 1) 47 (fl.map intV)))
  case atStart =>
    refine ⟨0, newS, List.replicate 32 0, Nat.zero_le _, rfl, rfl, may_newS, FarP.new, ⟨a2, cap2, b2, nc2, cc2, ?_, ⟨?_, ?_⟩, ?_⟩, ?_⟩
    · exact S2.out.keep (by repeat (first | (with_reducible exact Below.refl _ _) | (with_reducible exact Below.refl _ _) | (with_reducible apply Below.drew) | (with_reducible apply below_alloc) | ((with_reducible refine Below.alloc ?_ ?_ _); rotate_left; focus (first | (simp; done) | (simp; omega) | omega)) | ((with_reducible refine Below.setCell ?_ ?_ _); rotate_left; focus (first | (simp; done) | (simp; omega) | omega))))
    · repeat (first | (with_reducible exact Blk.new rfl) | ((with_reducible apply Blk.new); focus (first | rfl | (simp; done) | (simp; omega))) | (with_reducible apply Blk.drew) | (with_reducible apply Blk.alloc) | (with_reducible apply Blk.set_) | ((with_reducible apply Blk.far); rotate_left; focus (first | (simp; done) | (simp; omega) | omega)))
    · show Blk _ _ _ [.int .i64 0, .int .i64 0, .int .i64 0, .int .i64 0]
      repeat (first | (with_reducible exact Blk.new rfl) | ((with_reducible apply Blk.new); focus (first | rfl | (simp; done) | (simp; omega))) | (with_reducible apply Blk.drew) | (with_reducible apply Blk.alloc) | (with_reducible apply Blk.set_) | ((with_reducible apply Blk.far); rotate_left; focus (first | (simp; done) | (simp; omega) | omega)))
    · repeat (first | (with_reducible exact HB.out) | (with_reducible exact Below.refl _ _) | (with_reducible apply Below.drew) | (with_reducible apply below_alloc) | ((with_reducible refine Below.alloc ?_ ?_ _); rotate_left; focus (first | (simp; done) | (simp; omega) | omega)) | ((with_reducible refine Below.setCell ?_ ?_ _); rotate_left; focus (first | (simp; done) | (simp; omega) | omega)))
    · exact Blk.new (by simp)
  case round =>
    clear S2 HB
    obtain ⟨k, st, fl, hk, rfl, rfl, HM, HFP, HI, HF⟩ := hrel
    obtain ⟨a3, cap3, b3, nc3, cc3, hS, ⟨hQ, hE⟩, hB⟩ := HI.out
    have S := Lib.hid hS.reads
    have OS := Lib.hid hS
    have HQ := Lib.hid hQ
    have HE := Lib.hid hE
    have HB := Lib.hid hB
    clear hS hQ hE hB
    obtain ⟨q0, q1, qz⟩ := cells2 HQ.out
    have ql := HQ.out.lt
    have el := HE.out.lt
    have fl_ := HF.out.lt
    by_cases hlt : k < n
    rotate_left
    · obtain rfl : k = n := by omega
      have hlt' : ¬ (k : Int) < (k : Int) := by omega
      go_wp2_with fail
      go_ret
      exact ⟨rfl, HB.out⟩
    have hk0 : (0 : Int) ≤ (k : Int) := by omega
    have hk1 : (k : Int) < (n : Int) := by omega
    obtain ⟨g, off, ha, hat⟩ := HD.out (by omega)
    subst ha
    obtain ⟨c, hc⟩ : ∃ c, c = l.getD k default := ⟨_, rfl⟩
    have hcm := (hat k hlt).keep HB.out
    rw [← hc] at hcm
    have HCA := Lib.hid (hat k hlt)
    rw [← hc] at HCA
    have HCO := Lib.hid (OK.out c (by rw [hc, getD_lt (by rw [← HN.out]; exact hlt)]; exact List.getElem_mem _))
    obtain ⟨⟨⟨c0, c1, c2, c3⟩, c4, c5⟩, ⟨c6, c7, c8⟩, c9, c10, c11⟩ := hcm
    have gl : g < wr.heap.size := World.block_lt_of_cell? wr _ c0
    obtain ⟨kind, ⟨mid, ga, gn, gc, mt, mk, mb⟩, id, time, ma, mn, mc, ct, cw, cn⟩ := c
    simp only at c0 c1 c2 c3 c4 c5 c6 c7 c8 c9 c10 c11
    clear hat hc
    by_cases hkl : (5000 : Int) < (mk.size : Int)
    · go_wp2_with fail
      go_ret
      refine ⟨rfl, ?_⟩
      repeat (first | (with_reducible exact HB.out) | (with_reducible exact Below.refl _ _) | (with_reducible apply Below.drew) | (with_reducible apply below_alloc) | ((with_reducible refine Below.alloc ?_ ?_ _); rotate_left; focus (first | (simp; done) | (simp; omega) | omega)) | ((with_reducible refine Below.setCell ?_ ?_ _); rotate_left; focus (first | (simp; done) | (simp; omega) | omega)))
    by_cases hbl : (5000 : Int) < (mb.size : Int)
    · go_wp2_with fail
      go_ret
      refine ⟨rfl, ?_⟩
      repeat (first | (with_reducible exact HB.out) | (with_reducible exact Below.refl _ _) | (with_reducible apply Below.drew) | (with_reducible apply below_alloc) | ((with_reducible refine Below.alloc ?_ ?_ _); rotate_left; focus (first | (simp; done) | (simp; omega) | omega)) | ((with_reducible refine Below.setCell ?_ ?_ _); rotate_left; focus (first | (simp; done) | (simp; omega) | omega)))
    have KS := Lib.hid (keysS_of_may HM.out)
    obtain ⟨u, n1, x1, hput⟩ : ∃ u n x, putS st mid mt mk mb = (u, n, x) := ⟨_, _, _, rfl⟩
    obtain ⟨d, x2, hdo⟩ : ∃ d x, doS st kind ct cw cn = (d, x) := ⟨_, _, rfl⟩
    have HPUT := Lib.hid hput
    have HDO := Lib.hid hdo
    clear hput hdo
    go_upto_region 13 with fail
    go_cut [73] from 30 to 163 (fun c wx => (∃ bb : Bool, c = .bool bb) ∧ wx = wr.alloc (.cells #[.int .i64 mid, .slice ga gn gc, .int .i64 mt, .string mk, .string mb] 50))
    case first =>
      go_wp2_with fail
      all_goals
        go_meet
        case rel => exact ⟨⟨_, rfl⟩, rfl⟩
    case rest =>
      obtain ⟨⟨bb, rfl⟩, rfl⟩ := hcut
      go_upto_if 73 with fail
      go_cut [] from 30 to 163 (fun wx => ∃ st' : Str, Hid (mayS st') ∧ Hid (FarP 0 fl st'.coms) ∧ Hid (Inv w w2.heap.size st' wx) ∧ Hid (Blk wx (w2.heap.size + 1 + 1) 47 (fl.map intV)))
      case first =>
        cases bb
        · have KC : Hid (∀ W' : World, Below wr.heap.size wr W' → ((W'.cell? ⟨w2.heap.size, 0, none⟩ = some (.slice a3 st.tops.length cap3) ∧ W'.cell? ⟨w2.heap.size, 1, none⟩ = some (.slice b3 nc3 cc3)) ∧ ((W'.cell? ⟨g, off + k * 12, none⟩ = some (.int .u8 kind) ∧ W'.cell? ⟨g, off + k * 12 + 1, none⟩ = some (.int .i64 mid) ∧ W'.cell? ⟨g, off + k * 12 + 2, none⟩ = some (.slice ga gn gc) ∧ W'.cell? ⟨g, off + k * 12 + 3, none⟩ = some (.int .i64 mt)) ∧ (W'.cell? ⟨g, off + k * 12 + 4, none⟩ = some (.string mk) ∧ W'.cell? ⟨g, off + k * 12 + 5, none⟩ = some (.string mb) ∧ W'.cell? ⟨g, off + k * 12 + 6, none⟩ = some (.int .i64 id) ∧ W'.cell? ⟨g, off + k * 12 + 7, none⟩ = some (.int .i64 time)) ∧ (W'.cell? ⟨g, off + k * 12 + 8, none⟩ = some (.slice ma mn mc) ∧ W'.cell? ⟨g, off + k * 12 + 9, none⟩ = some (.int .i64 ct) ∧ W'.cell? ⟨g, off + k * 12 + 10, none⟩ = some (.int .i64 cw) ∧ W'.cell? ⟨g, off + k * 12 + 11, none⟩ = some (.int .i64 cn))))) := fun W' hb => by
            have c := fun (p : Addr) (hp : p.block < wr.heap.size) => hb.cell hp
            refine ⟨⟨(c _ ?_).trans q0, (c _ ?_).trans q1⟩, ⟨(c _ ?_).trans c0, (c _ ?_).trans c1, (c _ ?_).trans c2, (c _ ?_).trans c3⟩, ⟨(c _ ?_).trans c4, (c _ ?_).trans c5, (c _ ?_).trans c6, (c _ ?_).trans c7⟩, (c _ ?_).trans c8, (c _ ?_).trans c9, (c _ ?_).trans c10, (c _ ?_).trans c11⟩ <;> (simp only []; omega)
          have KT := KC.out wr (Below.refl _ _)
          have ql' : w2.heap.size ≠ wr.heap.size + 1 := by omega
          have gl' : g ≠ wr.heap.size + 1 := by omega
          go_wp2_with fail
          go_region_held3 (fun W' => ((W'.cell? ⟨w2.heap.size, 0, none⟩ = some (.slice a3 st.tops.length cap3) ∧ W'.cell? ⟨w2.heap.size, 1, none⟩ = some (.slice b3 nc3 cc3)) ∧ ((W'.cell? ⟨g, off + k * 12, none⟩ = some (.int .u8 kind) ∧ W'.cell? ⟨g, off + k * 12 + 1, none⟩ = some (.int .i64 mid) ∧ W'.cell? ⟨g, off + k * 12 + 2, none⟩ = some (.slice ga gn gc) ∧ W'.cell? ⟨g, off + k * 12 + 3, none⟩ = some (.int .i64 mt)) ∧ (W'.cell? ⟨g, off + k * 12 + 4, none⟩ = some (.string mk) ∧ W'.cell? ⟨g, off + k * 12 + 5, none⟩ = some (.string mb) ∧ W'.cell? ⟨g, off + k * 12 + 6, none⟩ = some (.int .i64 id) ∧ W'.cell? ⟨g, off + k * 12 + 7, none⟩ = some (.int .i64 time)) ∧ (W'.cell? ⟨g, off + k * 12 + 8, none⟩ = some (.slice ma mn mc) ∧ W'.cell? ⟨g, off + k * 12 + 9, none⟩ = some (.int .i64 ct) ∧ W'.cell? ⟨g, off + k * 12 + 10, none⟩ = some (.int .i64 cw) ∧ W'.cell? ⟨g, off + k * 12 + 11, none⟩ = some (.int .i64 cn)))))
            (first | (with_reducible exact KT) | (refine KC.out _ ?_; done) | (refine KC.out _ ?_; (repeat (first | (with_reducible exact Below.refl _ _) | (with_reducible exact Below.refl _ _) | (with_reducible apply Below.drew) | (with_reducible apply below_alloc) | ((with_reducible refine Below.alloc ?_ ?_ _); rotate_left; focus (first | (simp; done) | (simp; omega) | omega)) | ((with_reducible refine Below.setCell ?_ ?_ _); rotate_left; focus (first | (simp; done) | (simp; omega) | omega)))); done) | (refine KC.out _ ?_; (repeat (first | (with_reducible exact HX.out) | (with_reducible exact Below.refl _ _) | (with_reducible apply Below.drew) | (with_reducible apply below_alloc) | ((with_reducible refine Below.alloc ?_ ?_ _); rotate_left; focus (first | (simp; done) | (simp; omega) | omega)) | ((with_reducible refine Below.setCell ?_ ?_ _); rotate_left; focus (first | (simp; done) | (simp; omega) | omega)))); done))
            (first | (go_at_call 20; refine (strDo_any ct cw cn (S.out.below (by repeat (first | (with_reducible exact Below.refl _ _) | (with_reducible exact Below.refl _ _) | (with_reducible apply Below.drew) | (with_reducible apply below_alloc) | ((with_reducible refine Below.alloc ?_ ?_ _); rotate_left; focus (first | (simp; done) | (simp; omega) | omega)) | ((with_reducible refine Below.setCell ?_ ?_ _); rotate_left; focus (first | (simp; done) | (simp; omega) | omega))))) KS.out HDO.out).mono ?_; rintro e w3 ⟨ta, tc, rfl, os, hb⟩; obtain ⟨a4, cap4, b4, nc4, cc4, ev, -, -⟩ := os.reads.shape; cases ev; have HX : Hid (Below wr.heap.size wr w3) := below_step (by repeat (first | (with_reducible exact Below.refl _ _) | (with_reducible exact Below.refl _ _) | (with_reducible apply Below.drew) | (with_reducible apply below_alloc) | ((with_reducible refine Below.alloc ?_ ?_ _); rotate_left; focus (first | (simp; done) | (simp; omega) | omega)) | ((with_reducible refine Below.setCell ?_ ?_ _); rotate_left; focus (first | (simp; done) | (simp; omega) | omega)))) hb; have SD : Hid (OwnS w3 (wr.heap.size + 1) _ d) := Lib.hid (os.le (by simp)); have hw3 : wr.heap.size < w3.heap.size := Nat.lt_of_lt_of_le (by first | (simp; done) | (simp; omega)) hb.size; have HY : Hid (Blk w3 (wr.heap.size + 1) 25 [.slice none 0 0, .slice none 0 0]) := Lib.hid (Blk.step (Blk.drew (Blk.new (w := wr.alloc (.cells #[.int .i64 mid, .slice ga gn gc, .int .i64 mt, .string mk, .string mb] 50)) (by simp))) hb); obtain ⟨y0, y1, yz⟩ := cells2 HY.out; clear hb os) | (go_at_call 20; refine (strDo_any ct cw cn (S.out.below (by repeat (first | (with_reducible exact Below.refl _ _) | (with_reducible exact Below.refl _ _) | (with_reducible apply Below.drew) | (with_reducible apply below_alloc) | ((with_reducible refine Below.alloc ?_ ?_ _); rotate_left; focus (first | (simp; done) | (simp; omega) | omega)) | ((with_reducible refine Below.setCell ?_ ?_ _); rotate_left; focus (first | (simp; done) | (simp; omega) | omega))))) KS.out HDO.out).mono ?_; rintro e w3 ⟨ta, tc, rfl, os, hb⟩; obtain ⟨a4, cap4, b4, nc4, cc4, ev, -, -⟩ := os.reads.shape; cases ev; have HX : Hid (Below wr.heap.size wr w3) := below_step (by repeat (first | (with_reducible exact Below.refl _ _) | (with_reducible exact Below.refl _ _) | (with_reducible apply Below.drew) | (with_reducible apply below_alloc) | ((with_reducible refine Below.alloc ?_ ?_ _); rotate_left; focus (first | (simp; done) | (simp; omega) | omega)) | ((with_reducible refine Below.setCell ?_ ?_ _); rotate_left; focus (first | (simp; done) | (simp; omega) | omega)))) hb; have SD : Hid (OwnS w3 (wr.heap.size + 1) _ d) := Lib.hid (os.le (by simp)); have hw3 : wr.heap.size < w3.heap.size := Nat.lt_of_lt_of_le (by first | (simp; done) | (simp; omega)) hb.size; clear hb os))
          all_goals
            have hwr0 : w.heap.size ≤ wr.heap.size := HB.out.size
            first
              | (have HT : Hid (Blk ((w3.setCell ⟨wr.heap.size + 1, 0, none⟩ (.slice a4 d.tops.length cap4)).setCell ⟨wr.heap.size + 1, 1, none⟩ (.slice b4 nc4 cc4)) (wr.heap.size + 1) 25 [.slice a4 d.tops.length cap4, .slice b4 nc4 cc4]) := Lib.hid ((HY.out.set_ 0 _).set_ 1 _)
                 have H3 : Hid (Below wr.heap.size wr ((w3.setCell ⟨wr.heap.size + 1, 0, none⟩ (.slice a4 d.tops.length cap4)).setCell ⟨wr.heap.size + 1, 1, none⟩ (.slice b4 nc4 cc4))) := Lib.hid (by repeat (first | (with_reducible exact HX.out) | (with_reducible exact Below.refl _ _) | (with_reducible apply Below.drew) | (with_reducible apply below_alloc) | ((with_reducible refine Below.alloc ?_ ?_ _); rotate_left; focus (first | (simp; done) | (simp; omega) | omega)) | ((with_reducible refine Below.setCell ?_ ?_ _); rotate_left; focus (first | (simp; done) | (simp; omega) | omega))))
                 have SD3 : Hid (OwnS ((w3.setCell ⟨wr.heap.size + 1, 0, none⟩ (.slice a4 d.tops.length cap4)).setCell ⟨wr.heap.size + 1, 1, none⟩ (.slice b4 nc4 cc4)) w.heap.size _ d) := Lib.hid (((SD.out.le (by omega)).blk HY.out (by decide) (by decide) (by decide) (by decide)).blk (HY.out.set_ 0 _) (by decide) (by decide) (by decide) (by decide))
                 have htb : wr.heap.size ≤ wr.heap.size + 1 := by omega
                 clear HY y0 y1 yz SD HX KT
                 generalize hW3 : ((w3.setCell ⟨wr.heap.size + 1, 0, none⟩ (.slice a4 d.tops.length cap4)).setCell ⟨wr.heap.size + 1, 1, none⟩ (.slice b4 nc4 cc4)) = W3 at HT H3 SD3 ⊢
                 generalize wr.heap.size + 1 = tb at HT htb ⊢
                 clear hW3)
              | (have HT := Lib.hid (Blk.new (w := w3) (g := w3.heap.size) (t := 25) (cs := [.slice a4 d.tops.length cap4, .slice b4 nc4 cc4]) rfl)
                 have H3 : Hid (Below wr.heap.size wr (w3.alloc (.cells #[.slice a4 d.tops.length cap4, .slice b4 nc4 cc4] 25))) := Lib.hid (by repeat (first | (with_reducible exact HX.out) | (with_reducible exact Below.refl _ _) | (with_reducible apply Below.drew) | (with_reducible apply below_alloc) | ((with_reducible refine Below.alloc ?_ ?_ _); rotate_left; focus (first | (simp; done) | (simp; omega) | omega)) | ((with_reducible refine Below.setCell ?_ ?_ _); rotate_left; focus (first | (simp; done) | (simp; omega) | omega))))
                 have SD3 : Hid (OwnS (w3.alloc (.cells #[.slice a4 d.tops.length cap4, .slice b4 nc4 cc4] 25)) w.heap.size _ d) := Lib.hid ((SD.out.le (by omega)).keep (by repeat (first | (with_reducible exact Below.refl _ _) | (with_reducible exact Below.refl _ _) | (with_reducible apply Below.drew) | (with_reducible apply below_alloc) | ((with_reducible refine Below.alloc ?_ ?_ _); rotate_left; focus (first | (simp; done) | (simp; omega) | omega)) | ((with_reducible refine Below.setCell ?_ ?_ _); rotate_left; focus (first | (simp; done) | (simp; omega) | omega)))))
                 have htb : wr.heap.size ≤ w3.heap.size := by omega
                 clear SD HX KT
                 generalize hW3 : (w3.alloc (.cells #[.slice a4 d.tops.length cap4, .slice b4 nc4 cc4] 25)) = W3 at HT H3 SD3 ⊢
                 generalize w3.heap.size = tb at HT htb hw3 ⊢
                 clear hW3)
            have hws : w.heap.size ≤ w2.heap.size := HS2.out
            have HQ3 := Lib.hid (HQ.out.step H3.out)
            have HE3 := Lib.hid (HE.out.step H3.out)
            have HF3 := Lib.hid (HF.out.step H3.out)
            have HB3 : Hid (Below w.heap.size w W3) := Lib.hid (HB.out.trans (H3.out.mono HB.out.size))
            clear q0 q1 qz
            obtain ⟨q0, q1, qz⟩ := cells2 HQ3.out
            obtain ⟨t0, t1, tz⟩ := cells2 HT.out
            rcases doS_cases HDO.out with ⟨-, hx⟩ | ⟨hx, -, hmd, ⟨-, hnx⟩, hfar⟩
            · have hx' : (x2 == 0) = false := by simpa using hx
              go_wp2_with fail
              go_meet
              case rel =>
                exact ⟨st, HM, HFP.out.mono (fun _ _ _ _ _ => Int.le_refl _), ⟨a3, cap3, b3, nc3, cc3, OS.out.keep H3.out, ⟨HQ3.out, HE3.out⟩, HB3.out⟩, HF3⟩
            · subst hx
              have HMD := Lib.hid hmd
              have HNX := Lib.hid hnx
              have HFA := Lib.hid hfar
              clear hmd hnx hfar
              go_wp2_with fail
              go_meet
              case rel =>
                refine ⟨d, HMD, HFP.out.mono (fun t k h0 h1 h2 => (HFA.out t k h0 h1 h2).2), ⟨a4, cap4, b4, nc4, cc4, ?_, ⟨?_, ?_⟩, ?_⟩, ?_⟩
                · exact (SD3.out.blk HQ3.out (by decide) (by decide) (by decide) (by decide)).blk (HQ3.out.set_ 0 _) (by decide) (by decide) (by decide) (by decide)
                · exact (HQ3.out.set_ 0 _).set_ 1 _
                · rw [endsC_eq (fun o ho => (HNX.out o ho).2)]
                  exact (HE3.out.far (by omega) _).far (by omega) _
                · exact (HB3.out.setCell (p := ⟨w2.heap.size, 0, none⟩) (by show w.heap.size ≤ w2.heap.size; omega) _).setCell (p := ⟨w2.heap.size, 1, none⟩) (by show w.heap.size ≤ w2.heap.size; omega) _
                · exact (HF3.out.far (by omega) _).far (by omega) _
        · go_wp2_with fail
          refine Calls.mono (strPut_any mid mt mk mb ?_ KS.out HPUT.out) ?_
          · exact S.out.below (by repeat (first | (with_reducible exact Below.refl _ _) | (with_reducible exact Below.refl _ _) | (with_reducible apply Below.drew) | (with_reducible apply below_alloc) | ((with_reducible refine Below.alloc ?_ ?_ _); rotate_left; focus (first | (simp; done) | (simp; omega) | omega)) | ((with_reducible refine Below.setCell ?_ ?_ _); rotate_left; focus (first | (simp; done) | (simp; omega) | omega))))
          rintro e w3 ⟨ta, tc, rfl, os, hb⟩
          obtain ⟨a4, cap4, b4, nc4, cc4, ev, -, -⟩ := os.reads.shape
          cases ev
          have HX : Hid (Below wr.heap.size wr w3) := below_step (by repeat (first | (with_reducible exact Below.refl _ _) | (with_reducible exact Below.refl _ _) | (with_reducible apply Below.drew) | (with_reducible apply below_alloc) | ((with_reducible refine Below.alloc ?_ ?_ _); rotate_left; focus (first | (simp; done) | (simp; omega) | omega)) | ((with_reducible refine Below.setCell ?_ ?_ _); rotate_left; focus (first | (simp; done) | (simp; omega) | omega)))) hb
          have HM5 : Hid (Blk w3 wr.heap.size 50 [.int .i64 mid, .slice ga gn gc, .int .i64 mt, .string mk, .string mb]) := Lib.hid (Blk.step (by repeat (first | (with_reducible exact Blk.new rfl) | ((with_reducible apply Blk.new); focus (first | rfl | (simp; done) | (simp; omega))) | (with_reducible apply Blk.drew) | (with_reducible apply Blk.alloc) | (with_reducible apply Blk.set_) | ((with_reducible apply Blk.far); rotate_left; focus (first | (simp; done) | (simp; omega) | omega)))) hb)
          have SU : Hid (OwnS w3 w.heap.size _ u) := Lib.hid (os.le (by have := HB.out.size; simp; omega))
          clear hb os q0 q1 qz
          have HQ3 := Lib.hid (HQ.out.step HX.out)
          have HE3 := Lib.hid (HE.out.step HX.out)
          have HF3 := Lib.hid (HF.out.step HX.out)
          have HB3 : Hid (Below w.heap.size w w3) := Lib.hid (HB.out.trans (HX.out.mono HB.out.size))
          have ml := HM5.out.lt
          rcases putS_cases HPUT.out with ⟨-, -, hx⟩ | ⟨hx, ⟨-, ht0, ht4⟩, hmu, hn1, t', hu, hnx⟩
          · have hx' : (x1 == 0) = false := by simpa using hx
            go_wp2_with fail
            go_meet
            case rel =>
              exact ⟨st, HM, HFP.out.mono (fun _ _ _ _ _ => Int.le_refl _), ⟨a3, cap3, b3, nc3, cc3, (OS.out.keep HX.out).keep (by repeat (first | (with_reducible exact Below.refl _ _) | (with_reducible exact Below.refl _ _) | (with_reducible apply Below.drew) | (with_reducible apply below_alloc) | ((with_reducible refine Below.alloc ?_ ?_ _); rotate_left; focus (first | (simp; done) | (simp; omega) | omega)) | ((with_reducible refine Below.setCell ?_ ?_ _); rotate_left; focus (first | (simp; done) | (simp; omega) | omega)))), ⟨HQ3.out.alloc _, HE3.out.alloc _⟩, by (repeat (first | (with_reducible exact HB3.out) | (with_reducible exact Below.refl _ _) | (with_reducible apply Below.drew) | (with_reducible apply below_alloc) | ((with_reducible refine Below.alloc ?_ ?_ _); rotate_left; focus (first | (simp; done) | (simp; omega) | omega)) | ((with_reducible refine Below.setCell ?_ ?_ _); rotate_left; focus (first | (simp; done) | (simp; omega) | omega))))⟩, HF3.out.alloc _⟩
          · subst hx
            obtain ⟨i, rfl⟩ : ∃ i : Nat, mt = (i : Int) := ⟨mt.toNat, by omega⟩
            have hnn := next_le HM.out ht0 ht4
            have e0 := HE3.out.cell i
            have e1 := endsC_at (s := st) ht0 ht4
            rw [Int.toNat_natCast] at e1
            rw [e1, ← hn1] at e0
            have HUC : Hid (u.coms = st.coms) := Lib.hid (by rw [hu])
            have HEN : Hid ((endsC st).set i (.int .i64 (n1 + 1)) = endsC u) := Lib.hid (by
              have h := endsC_set (s := st) (u := u) (t := (i : Int)) (n := n1 + 1) ht0 ht4 (fun o h0 h1 => by rw [hu, Int.toNat_natCast, topN_set_other h0 h1]) (by
                rw [hu, hn1, ← hnx, Int.toNat_natCast]
                show ((st.tops.set i t').getD i default).next = t'.next
                rw [getD_set_same (by have := HM.out.1.1; omega)])
              rwa [Int.toNat_natCast] at h)
            have HMU := Lib.hid hmu
            have hn0 : 0 ≤ n1 := by omega
            have hn9 : n1 ≤ 1073741824 := by omega
            have hwr : IntKind.i64.wrap (n1 + 1) = n1 + 1 := IntWalk.i64_in _ (by omega)
            have ef := HE3.out.free i
            obtain ⟨m0, m1, m2, m3, m4, mz⟩ := cells5 HM5.out
            obtain ⟨q0, q1, qz⟩ := cells2 HQ3.out
            have ql3 := HQ3.out.lt
            have el3 := HE3.out.lt
            have fl3 := HF3.out.lt
            clear hu hnx hmu hn1 e1 hnn
            go_wp2_with fail
            go_meet
            case rel =>
              have hws : w.heap.size ≤ w2.heap.size := HS2.out
              have HQ4 := HQ3.out.far (b := w2.heap.size + 1) (o := i) (by omega) (.int .i64 (n1 + 1))
              refine ⟨u, HMU, ?_, ⟨a4, cap4, b4, nc4, cc4, ?_, ⟨?_, ?_⟩, ?_⟩, ?_⟩
              · rw [HUC.out]
                exact HFP.out.mono (fun _ _ _ _ _ => Int.le_refl _)
              · exact (((SU.out.blk HE3.out (by decide) (by decide) (by decide) (by decide)).blk HQ4 (by decide) (by decide) (by decide) (by decide)).blk (HQ4.set_ 0 _) (by decide) (by decide) (by decide) (by decide)).keep (below_alloc (Below.refl _ _))
              · exact ((HQ4.set_ 0 _).set_ 1 _).alloc _
              · rw [← HEN.out]
                exact (((HE3.out.set_ i _).far (by omega) _).far (by omega) _).alloc _
              · repeat (first | (with_reducible exact HB3.out) | (with_reducible exact Below.refl _ _) | (with_reducible apply Below.drew) | (with_reducible apply below_alloc) | ((with_reducible refine Below.alloc ?_ ?_ _); rotate_left; focus (first | (simp; done) | (simp; omega) | omega)) | ((with_reducible refine Below.setCell ?_ ?_ _); rotate_left; focus (first | (simp; done) | (simp; omega) | omega)))
              · exact (((HF3.out.far (by omega) _).far (by omega) _).far (by omega) _).alloc _
      case rest =>
        obtain ⟨st', HM', HFP', HI', HF'⟩ := hcut
        clear S OS HQ HE HB q0 q1 qz ql el fl_ HF HI HM HFP c0 c1 c2 c3 c4 c5 c6 c7 c8 c9 c10 c11 gl HPUT HDO KS HCA HCO
        obtain ⟨a5, cap5, b5, nc5, cc5, hS, ⟨hQ, hE⟩, hB⟩ := HI'.out
        have OS := Lib.hid hS
        have HQ := Lib.hid hQ
        have HE := Lib.hid hE
        have HB := Lib.hid hB
        have HF := HF'
        have KS := Lib.hid (keysS_of_may HM'.out)
        have HCK := Lib.hid (show (0 : Int) = if mayS st' then 0 else 8 by rw [if_pos HM'.out])
        clear hS hQ hE hB HI' HF'
        obtain ⟨q0, q1, qz⟩ := cells2 HQ.out
        have ql := HQ.out.lt
        go_wp2_with fail
        refine Calls.mono (strCheck_any OS.out.reads KS.out 0 HCK.out) ?_
        rintro e w6 ⟨rfl, hb⟩
        replace OS := Lib.hid (OS.out.keep hb)
        replace HQ := Lib.hid (HQ.out.step hb)
        replace HE := Lib.hid (HE.out.step hb)
        replace HF := Lib.hid (HF.out.step hb)
        replace HB : Hid (Below w.heap.size w w6) := Lib.hid (HB.out.trans (hb.mono HB.out.size))
        clear hb q0 q1 qz ql
        go_wp2_with fail
        go_loopg [14] 4 (fun g' i wt => ∃ (q : Nat) (fl' : List Int), q ≤ 4 ∧ g' = 4 - q ∧ i = .int .i64 (q : Int) ∧ Hid (FarP (8 * q) fl' st'.coms) ∧ Hid (OwnS wt w.heap.size (.agg #[.slice a5 st'.tops.length cap5, .slice b5 nc5 cc5]) st') ∧ Hid ((Blk wt w2.heap.size 25 [.slice a5 st'.tops.length cap5, .slice b5 nc5 cc5] ∧ Blk wt (w2.heap.size + 1) 46 (endsC st')) ∧ Below w.heap.size w wt) ∧ Hid (Blk wt (w2.heap.size + 1 + 1) 47 (fl'.map intV)))
        case atStart => exact ⟨0, fl, Nat.zero_le _, rfl, rfl, HFP', OS, ⟨⟨HQ.out, HE.out⟩, HB.out⟩, HF⟩
        case round =>
          rename_i wt
          clear OS HQ HE HB HF HFP'
          obtain ⟨q, fl', hq, rfl, rfl, HFP, OS, HH, HF⟩ := hrel
          obtain ⟨⟨hQ, hE⟩, hB⟩ := HH.out
          have HQ := Lib.hid hQ
          have HE := Lib.hid hE
          have HB := Lib.hid hB
          clear hQ hE hB HH
          by_cases hq4 : q < 4
          rotate_left
          · obtain rfl : q = 4 := by omega
            go_wp2_with fail
            go_roundg (n - (k + 1))
            case measure => omega
            case rel => exact ⟨k + 1, st', fl', by omega, rfl, by go_num, HM', HFP, ⟨a5, cap5, b5, nc5, cc5, OS.out, ⟨HQ.out, HE.out⟩, HB.out⟩, HF⟩
          have hq0 : (0 : Int) ≤ (q : Int) := by omega
          have hq1 : (q : Int) < 4 := by omega
          obtain ⟨q0, q1, qz⟩ := cells2 HQ.out
          have ql := HQ.out.lt
          go_wp2_with fail
          refine Calls.mono (strEnd_any (q : Int) OS.out.reads KS.out (endS_yes HM'.out hq0 hq1)) ?_
          rintro e w7 ⟨rfl, hb⟩
          replace OS := Lib.hid (OS.out.keep hb)
          replace HQ := Lib.hid (HQ.out.step hb)
          replace HE := Lib.hid (HE.out.step hb)
          replace HF := Lib.hid (HF.out.step hb)
          replace HB : Hid (Below w.heap.size w w7) := Lib.hid (HB.out.trans (hb.mono HB.out.size))
          clear hb q0 q1 qz ql
          obtain ⟨nx, hnx⟩ : ∃ nx, nx = (topN st' (q : Int)).next := ⟨_, rfl⟩
          have e0 := HE.out.cell q
          have e1 := endsC_at (s := st') hq0 hq1
          rw [Int.toNat_natCast] at e1
          rw [e1, ← hnx] at e0
          rw [← hnx]
          have HNX := Lib.hid hnx
          clear hnx e1
          go_wp2_with fail
          go_loopg [17] 8 (fun g' i wu => ∃ (r : Nat) (fl'' : List Int), r ≤ 8 ∧ g' = 8 - r ∧ i = .int .i64 (r : Int) ∧ Hid (FarP (8 * q + r) fl'' st'.coms) ∧ Hid (OwnS wu w.heap.size (.agg #[.slice a5 st'.tops.length cap5, .slice b5 nc5 cc5]) st') ∧ Hid ((Blk wu w2.heap.size 25 [.slice a5 st'.tops.length cap5, .slice b5 nc5 cc5] ∧ Blk wu (w2.heap.size + 1) 46 (endsC st')) ∧ Below w.heap.size w wu) ∧ Hid (Blk wu (w2.heap.size + 1 + 1) 47 (fl''.map intV)))
          case atStart => exact ⟨0, fl', Nat.zero_le _, rfl, rfl, HFP, OS, ⟨⟨HQ.out, HE.out⟩, HB.out⟩, HF⟩
          case round =>
            rename_i wu
            clear OS HQ HE HB HF HFP e0
            obtain ⟨r, fl'', hr, rfl, rfl, HFP, OS, HH, HF⟩ := hrel
            obtain ⟨⟨hQ, hE⟩, hB⟩ := HH.out
            have HQ := Lib.hid hQ
            have HE := Lib.hid hE
            have HB := Lib.hid hB
            clear hQ hE hB HH
            by_cases hr8 : r < 8
            rotate_left
            · obtain rfl : r = 8 := by omega
              go_wp2_with fail
              go_roundg (4 - (q + 1))
              case measure => omega
              case rel => exact ⟨q + 1, fl'', by omega, rfl, by go_num, HFP, OS, ⟨⟨HQ.out, HE.out⟩, HB.out⟩, HF⟩
            have hr0 : (0 : Int) ≤ (r : Int) := by omega
            have hr1 : (r : Int) < 8 := by omega
            obtain ⟨q0, q1, qz⟩ := cells2 HQ.out
            have ql := HQ.out.lt
            go_wp2_with fail
            refine Calls.mono (strFar_any (q : Int) (r : Int) OS.out.reads KS.out (farS_yes HM'.out hq0 hq1 hr0 hr1)) ?_
            rintro e w8 ⟨rfl, hb⟩
            replace OS := Lib.hid (OS.out.keep hb)
            replace HQ := Lib.hid (HQ.out.step hb)
            replace HE := Lib.hid (HE.out.step hb)
            replace HF := Lib.hid (HF.out.step hb)
            replace HB : Hid (Below w.heap.size w w8) := Lib.hid (HB.out.trans (hb.mono HB.out.size))
            clear hb q0 q1 qz ql
            obtain ⟨x, hx⟩ : ∃ x, x = getC st'.coms (q : Int) (r : Int) := ⟨_, rfl⟩
            obtain ⟨y, hy⟩ : ∃ y, y = fl''.getD (8 * q + r) 0 := ⟨_, rfl⟩
            have hyx : y ≤ x := by rw [hx, hy]; exact HFP.out.at_ hq4 hr8
            have hxn : x ≤ nx := by rw [hx, HNX.out]; exact far_le HM'.out hq4 hr8
            have hyx' : ¬ x < y := by omega
            have hxn' : ¬ nx < x := by omega
            have f0 := cell_far HF.out (j := 8 * q + r) (by rw [HFP.out.1]; omega)
            have ff := HF.out.free (8 * q + r)
            rw [← hy] at f0
            rw [← hx]
            have HXX := Lib.hid hx
            clear hx hy hyx hxn
            have w1_ : IntKind.i64.wrap (8 * (q : Int)) = ((8 * q : Nat) : Int) := by rw [IntWalk.i64_in _ (by omega)]; omega
            have w2_ : IntKind.i64.wrap (((8 * q : Nat) : Int) + (r : Int)) = ((8 * q + r : Nat) : Int) := by rw [IntWalk.i64_in _ (by omega)]; omega
            have j0 : (0 : Int) ≤ ((8 * q + r : Nat) : Int) := by omega
            have j1 : ((8 * q + r : Nat) : Int) < 32 := by omega
            go_wp2_with fail
            go_roundg (8 - (r + 1))
            case measure => omega
            case rel =>
              have hws : w.heap.size ≤ w2.heap.size := HS2.out
              refine ⟨r + 1, fl''.set (8 * q + r) x, by omega, rfl, by go_num, ?_, ?_, ⟨⟨?_, ?_⟩, ?_⟩, ?_⟩
              · have h := HFP.out.next hr8
                rw [← HXX.out] at h
                exact h
              · exact OS.out.blk HF.out (by decide) (by decide) (by decide) (by decide)
              · exact HQ.out.far (by omega) _
              · exact HE.out.far (by omega) _
              · exact HB.out.setCell (p := ⟨w2.heap.size + 1 + 1, _, none⟩) (by show w.heap.size ≤ w2.heap.size + 1 + 1; omega) _
              · exact blk_far HF.out _ _
end Go.Proofs.Ytblgmjbajnkcdaa.StrRuns
