/-
  The document's Twin of models.
-/
import Derived.Test.YtblgmjbajnkcdabMdlO
import Derived.Test.YtblgmjbajnkcdabAppStep
import Derived.Test.YtblgmjbajnkcdabBunK
import Derived.Test.YtblgmjbajnkcdabMdlEnt
import Derived.Deep.RegionHeld3
namespace Go.Proofs.Ytblgmjbajnkcdab
open Go.RowKit

def fitM (m : Mdl) : Prop := m.tops.length ≤ 1000000 ∧ few m.coms ∧ ∀ p ∈ m.tops, p.all.length * 48 ≤ 140737488355328

set_option maxHeartbeats 8000000 in
set_option maxRecDepth 100000 in
theorem mdlRTwin_any {v : Value} {m : Mdl} {w : World} (h : MdlR w v m) (hf : fitM m) : Calls Try.prog 9 #[v] w (MdlEnd m w) := by
  obtain ⟨i0, hi, hz0, hz1, hz2⟩ := info_parts info_pl
  obtain ⟨i1, gi, gz0, gz1, gz2⟩ := info_parts info_ent
  obtain ⟨hf1, hf2, hf3⟩ := hf
  have HF2 := Lib.hid hf3
  have HF3 := Lib.hid hf2
  obtain ⟨a, cap, b, nc, cc, rfl, hT, hR⟩ := h.shape
  obtain ⟨aa, ccap, hv, hcap, hmx, _, hd⟩ := hT.shape
  cases hv
  have HD := Lib.hid hd
  have RR := Lib.hid hR
  obtain ⟨n, hn⟩ : ∃ n, n = m.tops.length := ⟨_, rfl⟩
  rw [← hn] at HD hcap hf1 ⊢
  have HN := Lib.hid hn
  have nn0 : (n : Int) ≤ 1000000 := by omega
  clear hf2 hf3 hT hR hd hn h hmx
  go_enter Try.func9, Try.ntmps9
  go_wp2_with fail
  refine Calls.mono (refTwin_any (m := m.coms) ?_ HF3.out) ?_
  · exact RR.out.below (by repeat (first | (with_reducible exact Below.refl _ _) | (with_reducible exact Below.refl _ _) | (with_reducible apply Below.drew) | (with_reducible apply below_alloc) | ((with_reducible refine Below.alloc ?_ ?_ _); rotate_left; focus (first | (simp; done) | (simp; omega) | omega)) | ((with_reducible refine Below.setCell ?_ ?_ _); rotate_left; focus (first | (simp; done) | (simp; omega) | omega))))
  rintro e w1 ⟨vc, rfl, oc, hb⟩
  obtain ⟨ac, nac, cac, rfl⟩ := oc.reads.shape
  have HB : Hid (Below w.heap.size w _) := below_step (by repeat (first | (with_reducible exact Below.refl _ _) | (with_reducible exact Below.refl _ _) | (with_reducible apply Below.drew) | (with_reducible apply below_alloc) | ((with_reducible refine Below.alloc ?_ ?_ _); rotate_left; focus (first | (simp; done) | (simp; omega) | omega)) | ((with_reducible refine Below.setCell ?_ ?_ _); rotate_left; focus (first | (simp; done) | (simp; omega) | omega)))) hb
  have P : Blk _ (w.heap.size) _ _ := Blk.step (by repeat (first | ((with_reducible apply Blk.new); focus (first | rfl | (simp; done) | (simp; omega))) | (with_reducible apply Blk.drew) | (with_reducible apply Blk.alloc) | (with_reducible apply Blk.set_) | ((with_reducible apply Blk.far); rotate_left; focus (first | (simp; done) | (simp; omega) | omega)))) hb
  obtain ⟨p0, p1, pz⟩ := cells2 P
  have pl := Blk.lt P
  have HP := Lib.hid P
  clear P
  have R : Blk _ (w.heap.size + 1) _ _ := Blk.step (by repeat (first | ((with_reducible apply Blk.new); focus (first | rfl | (simp; done) | (simp; omega))) | (with_reducible apply Blk.drew) | (with_reducible apply Blk.alloc) | (with_reducible apply Blk.set_) | ((with_reducible apply Blk.far); rotate_left; focus (first | (simp; done) | (simp; omega) | omega)))) hb
  obtain ⟨r0, r1, rz⟩ := cells2 R
  have rl := Blk.lt R
  have HR := Lib.hid R
  clear R
  have OC : Hid (OwnC w1 (w.heap.size + 2) _ _) := oc.le (by simp)
  have s1 : w.heap.size + 2 ≤ w1.heap.size := rl
  have HB1 := Lib.hid s1
  clear hb oc
  go_wp2_with fail
  go_loopg [4] n (fun g i wr => ∃ (k : Nat) (al : Option Addr) (capl : Nat), k ≤ n ∧ g = n - k ∧ i = .int .i64 (k : Int) ∧ Hid (OwnP wr (w1.heap.size + 1) (.slice al k capl) (m.tops.take k)) ∧ Hid (OwnC wr (w.heap.size + 2) (.slice ac nac cac) m.coms) ∧ Hid (Below w.heap.size w wr) ∧
    Hid (Blk wr (w.heap.size + 1) 25 [.slice none 0 0, .slice none 0 0] ∧ Blk wr w.heap.size 25 [.slice a n cap, .slice b nc cc]) ∧ Hid (Blk wr w1.heap.size 25 [.slice al k capl, .slice ac nac cac]))
  case atStart =>
    refine ⟨0, none, 0, Nat.zero_le _, rfl, rfl, OwnP.nil _ _, OC.out.alloc _, ?_, ⟨?_, ?_⟩, ?_⟩
    · show Below _ _ _
      repeat (first | (with_reducible exact HB.out) | (with_reducible exact Below.refl _ _) | (with_reducible apply Below.drew) | (with_reducible apply below_alloc) | ((with_reducible refine Below.alloc ?_ ?_ _); rotate_left; focus (first | (simp; done) | (simp; omega) | omega)) | ((with_reducible refine Below.setCell ?_ ?_ _); rotate_left; focus (first | (simp; done) | (simp; omega) | omega)))
    · repeat (first | (with_reducible exact HR.out) | ((with_reducible apply Blk.new); focus (first | rfl | (simp; done) | (simp; omega))) | (with_reducible apply Blk.drew) | (with_reducible apply Blk.alloc) | (with_reducible apply Blk.set_) | ((with_reducible apply Blk.far); rotate_left; focus (first | (simp; done) | (simp; omega) | omega)))
    · repeat (first | (with_reducible exact HP.out) | ((with_reducible apply Blk.new); focus (first | rfl | (simp; done) | (simp; omega))) | (with_reducible apply Blk.drew) | (with_reducible apply Blk.alloc) | (with_reducible apply Blk.set_) | ((with_reducible apply Blk.far); rotate_left; focus (first | (simp; done) | (simp; omega) | omega)))
    · show Blk _ _ _ _
      exact Blk.new rfl
  case round =>
    clear OC HB HP HR p0 p1 pz pl r0 r1 rz rl
    obtain ⟨k, al, capl, hk, rfl, rfl, OP, OC, HB, HRP, HQ⟩ := hrel
    obtain ⟨hR9, hP9⟩ := HRP.out
    have HR := Lib.hid hR9
    have HP := Lib.hid hP9
    clear hR9 hP9 HRP
    obtain ⟨q0, q1, qz⟩ := cells2 HQ.out
    obtain ⟨p0, p1, pz⟩ := cells2 HP.out
    have ql := HQ.out.lt
    have pl := HP.out.lt
    have HLW : Hid (w1.heap.size + 1 ≤ wr.heap.size) := ql
    by_cases hlt : k < n
    · have hk0 : (0 : Int) ≤ (k : Int) := by omega
      have hk1 : (k : Int) < (n : Int) := by omega
      obtain ⟨g, off, ha, hat⟩ := HD.out (by omega)
      subst ha
      have HAT := Lib.hid (hat k hlt)
      obtain ⟨ea, ecap, ⟨⟨c0, c1⟩, c2⟩, hPl⟩ := (hat k hlt).keep HB.out
      obtain ⟨x, hx⟩ : ∃ x, x = m.tops.getD k default := ⟨_, rfl⟩
      rw [← hx] at c0 c1 c2 hPl HAT
      have hg1 : g < wr.heap.size := World.block_lt_of_cell? wr _ c0
      have PP := Lib.hid hPl
      have hkl : k < m.tops.length := by rw [← HN.out]; exact hlt
      have HLX := Lib.hid (show x.all.length * 48 ≤ 140737488355328 by rw [hx, getD_lt hkl]; exact HF2.out _ (List.getElem_mem hkl))
      have HTK := Lib.hid (show m.tops.take (k + 1) = m.tops.take k ++ [x] by rw [hx, List.take_succ_eq_append_getElem hkl, getD_lt hkl])
      have HLK := Lib.hid (show (m.tops.take k).length = k by rw [List.length_take]; omega)
      have HSLX := Lib.hid (show SliceR wr (.slice ea x.all.length ecap) 4 entCells x.all by
        obtain ⟨a9, c9, ev, hs⟩ := hPl
        cases ev
        exact hs)
      have HNONE := Lib.hid (show ea = none → x.all.length = 0 ∧ ecap = 0 from fun e => by
        obtain ⟨a9, c9, ev, h2, h3, h4, _⟩ := HSLX.out
        cases ev
        have := h4 e
        omega)
      clear hat hPl hx hkl
      have KC : Hid (∀ W' : World, Below wr.heap.size wr W' → ((W'.cell? ⟨w.heap.size, 0, none⟩ = some (.slice (some ⟨g, off, none⟩) n cap) ∧ W'.cell? ⟨g, off + k * 3, none⟩ = some (.slice ea x.all.length ecap)) ∧ W'.cell? ⟨g, off + k * 3 + 1, none⟩ = some (.int .i64 x.base)) ∧ W'.cell? ⟨g, off + k * 3 + 2, none⟩ = some (.int .i64 x.mark)) := fun W' hb => by
        have c := fun (p : Addr) (hp : p.block < wr.heap.size) => hb.cell hp
        exact ⟨⟨⟨(c _ pl).trans p0, (c _ hg1).trans c0⟩, (c _ hg1).trans c1⟩, (c _ hg1).trans c2⟩
      have KT := KC.out wr (Below.refl _ _)
      go_wp2_with fail
      go_region_held3 (fun W' => ((W'.cell? ⟨w.heap.size, 0, none⟩ = some (.slice (some ⟨g, off, none⟩) n cap) ∧ W'.cell? ⟨g, off + k * 3, none⟩ = some (.slice ea x.all.length ecap)) ∧ W'.cell? ⟨g, off + k * 3 + 1, none⟩ = some (.int .i64 x.base)) ∧ W'.cell? ⟨g, off + k * 3 + 2, none⟩ = some (.int .i64 x.mark))
        (first | (with_reducible exact KT) | (refine KC.out _ ?_; (repeat (first | (with_reducible exact Below.refl _ _) | (with_reducible exact Below.refl _ _) | (with_reducible apply Below.drew) | (with_reducible apply below_alloc) | ((with_reducible refine Below.alloc ?_ ?_ _); rotate_left; focus (first | (simp; done) | (simp; omega) | omega)) | ((with_reducible refine Below.setCell ?_ ?_ _); rotate_left; focus (first | (simp; done) | (simp; omega) | omega)))); done))
        (first | fail)
      have HX5 := Lib.hid (Blk.new (w := wr) (t := 84) (g := wr.heap.size) (cs := [.slice none 0 0, .int .i64 x.base, .int .i64 x.mark]) rfl)
      go_wp2_with fail
      go_region_law (refine step_append_own_any rfl _ _ 68 rfl (wr.heap.size + 1) 29 i1 _ 4 48 Try.underlying68 gi gz0 gz1 gz2 rfl (by decide) _ 0 [] rfl (World.ownsRow_nil _ _ _ _) ea x.all.length ecap (x.all.flatMap entCells) rfl (by rw [flat_len]) HNONE.out (by
          intro ad had j v hv
          subst had
          have hsl := HSLX.out
          have hn0 : 0 < x.all.length := by
            have := (List.getElem?_eq_some_iff.1 hv).1
            rw [flat_len] at this
            omega
          obtain ⟨b9, o9, e9, _⟩ := hsl.ents.2.2 hn0
          cases e9
          exact (hsl.below entCells_len (by repeat (first | (with_reducible exact Below.refl _ _) | (with_reducible exact Below.refl _ _) | (with_reducible apply Below.drew) | (with_reducible apply below_alloc) | ((with_reducible refine Below.alloc ?_ ?_ _); rotate_left; focus (first | (simp; done) | (simp; omega) | omega)) | ((with_reducible refine Below.setCell ?_ ?_ _); rotate_left; focus (first | (simp; done) | (simp; omega) | omega))))).flat entCells_len (by omega) j v hv) (flat_one4 _) (by have := HLX.out; unfold maxLen; omega) (by have := HLX.out; omega) (by simp) ?_; intro v' w5 hown hgrow; have ho : OwnE w5 (wr.heap.size + 1) v' x.all := (by simpa using hown); obtain ⟨a6, c6, hv6⟩ := own_shape ho; subst hv6; have HOE := Lib.hid ho; have HGR := Lib.hid hgrow; have HX6 := Lib.hid (Blk.grown (Blk.drew (Blk.drew HX5.out)) hgrow (fun e => by cases e)); obtain ⟨x0, x1, x2, xz⟩ := cells3 HX6.out; clear hown hgrow ho)
      all_goals
        have HW5 : Hid (Below wr.heap.size wr w5) := below_step (by repeat (first | (with_reducible exact Below.refl _ _) | (with_reducible exact Below.refl _ _) | (with_reducible apply Below.drew) | (with_reducible apply below_alloc) | ((with_reducible refine Below.alloc ?_ ?_ _); rotate_left; focus (first | (simp; done) | (simp; omega) | omega)) | ((with_reducible refine Below.setCell ?_ ?_ _); rotate_left; focus (first | (simp; done) | (simp; omega) | omega)))) (belowGrown (show World.grownBy ((wr.alloc (.cells #[.slice none 0 0, .int .i64 x.base, .int .i64 x.mark] 84)).drew.drew) w5 none from HGR.out))
        have hw5 : wr.heap.size < w5.heap.size := HX6.out.lt
        have HX7 : Hid (Blk (w5.setCell ⟨wr.heap.size, 0, none⟩ (.slice a6 x.all.length c6)) wr.heap.size 84 [.slice a6 x.all.length c6, .int .i64 x.base, .int .i64 x.mark]) := Lib.hid (HX6.out.set_ 0 _)
        have HQ7 : Hid (Blk (w5.setCell ⟨wr.heap.size, 0, none⟩ (.slice a6 x.all.length c6)) w1.heap.size 25 [.slice al k capl, .slice ac nac cac]) := Lib.hid ((HQ.out.step HW5.out).far (by omega) _)
        have HR7 : Hid (Blk (w5.setCell ⟨wr.heap.size, 0, none⟩ (.slice a6 x.all.length c6)) (w.heap.size + 1) 25 [.slice none 0 0, .slice none 0 0]) := Lib.hid ((HR.out.step HW5.out).far (by have := HR.out.lt; omega) _)
        have HP7 : Hid (Blk (w5.setCell ⟨wr.heap.size, 0, none⟩ (.slice a6 x.all.length c6)) w.heap.size 25 [.slice (some ⟨g, off, none⟩) n cap, .slice b nc cc]) := Lib.hid ((HP.out.step HW5.out).far (by omega) _)
        have HW7 : Hid (Below wr.heap.size wr (w5.setCell ⟨wr.heap.size, 0, none⟩ (.slice a6 x.all.length c6))) := Lib.hid (HW5.out.setCell (p := ⟨wr.heap.size, 0, none⟩) (Nat.le_refl _) _)
        have OC7 := Lib.hid (OC.out.keep HW7.out)
        have HOE7 : Hid (OwnE (w5.setCell ⟨wr.heap.size, 0, none⟩ (.slice a6 x.all.length c6)) (wr.heap.size + 1) (.slice a6 x.all.length c6) x.all) := Lib.hid (own_set HOE.out (Nat.lt_succ_self _))
        have OP7 := Lib.hid (OP.out.keep HW7.out)
        clear x0 x1 x2 xz HX6 HOE HGR q0 q1 qz p0 p1 pz ql pl HQ HP HR HX5 KC KT
        generalize hW7 : w5.setCell ⟨wr.heap.size, 0, none⟩ (.slice a6 x.all.length c6) = W7 at HX7 HQ7 HR7 HP7 HW7 OC7 HOE7 OP7 ⊢
        clear hW7
        obtain ⟨x0, x1, x2, xz⟩ := cells3 HX7.out
        obtain ⟨q0, q1, qz⟩ := cells2 HQ7.out
        have xl := HX7.out.lt
        have ql := HQ7.out.lt
        have hw17 : w1.heap.size + 1 ≤ wr.heap.size := HLW.out
        obtain ⟨ps, hpl, hrow, hent, hap⟩ := OP.out
        rw [HLK.out] at hrow
        have HROW := Lib.hid hrow
        have HPL := Lib.hid hpl
        have HENT := Lib.hid hent
        have HAP := Lib.hid hap
        clear hpl hrow hent hap
        go_wp2_with (at_builtin; go_must (refine wpList_append_own _ rfl _ _ 22 rfl (w1.heap.size + 1) 84 i0 _ 3 40 Try.underlying22 hi hz0 hz1 hz2 rfl (by decide) _ k _ rfl (ownsRow_keep (ownsRow_keep HROW.out HW7.out) (below_alloc (Below.refl _ _))) ⟨W7.heap.size, 0, none⟩ 1 1 (plCells (.slice a6 x.all.length c6, x)) rfl rfl (news_pl _ x rfl) (plCells_one _ _ _ x) (by unfold maxLen; omega) (by omega) (by simp; omega) ?_))
        intro v' w8 hown hgrow _
        obtain ⟨g5, cap5, rfl⟩ : ∃ g5 cap5, v' = .slice (some ⟨g5, 0, none⟩) (k + 1) cap5 := by
          rcases hown.2 with ⟨_, h0⟩ | ⟨g5, cp, _, e, _⟩
          · omega
          · exact ⟨g5, cp, e⟩
        have hrw := ownsRow_keep (ownsRow_keep HROW.out HW7.out) (below_alloc (w := W7) (Below.refl _ _) (o := .cells #[.slice a6 x.all.length c6, .int .i64 x.base, .int .i64 x.mark] 84))
        have hww : wr.heap.size ≤ W7.heap.size := HW7.out.size
        have OP8 : Hid (OwnP w8 (w1.heap.size + 1) (.slice (some ⟨g5, 0, none⟩) (k + 1) cap5) (m.tops.take (k + 1))) := by
          rw [HTK.out]
          exact OwnP.snoc2 (B2 := wr.heap.size) HPL.out hrw (fun p hp => own_below (own_below (HENT.out p hp) HW7.out) (below_alloc (Below.refl _ _))) HAP.out (fun p hp j hj => ((HENT.out p hp).lt j hj).2) (own_below (own_base HOE7.out (by omega)) (below_alloc (Below.refl _ _))) (fun j hj => by have := (HOE7.out.lt j hj).1; omega) hgrow hown HLK.out.symm
        have OC8 := Lib.hid (OwnC.grown (OwnC.alloc OC7.out _) hgrow hrw rfl (by decide) (by decide))
        have hr1 := HROW.out.lt
        have HB8 : Hid (Below w.heap.size w w8) := Below.grown ((HB.out.trans (HW7.out.mono HB.out.size)).alloc (by have := HB.out.size; omega) _) hgrow (by have := HB.out.size; simp; omega) (fun j hj => by have := (hr1 j hj).1; have := HB1.out; omega)
        have HR8 := Lib.hid (Blk.grown (HR7.out.alloc _) hgrow (fun e => by have := (hr1 _ e).1; have := HB1.out; omega))
        have HP8 := Lib.hid (Blk.grown (HP7.out.alloc _) hgrow (fun e => by have := (hr1 _ e).1; have := HB1.out; omega))
        have HQ8 := Lib.hid (Blk.grown (HQ7.out.alloc _) hgrow (fun e => by have := (hr1 _ e).1; omega))
        clear hown hgrow hrw q0 q1 qz x0 x1 x2 xz xl ql hr1
        obtain ⟨q0, q1, qz⟩ := cells2 HQ8.out
        have ql := HQ8.out.lt
        go_wp2_with fail
        go_roundg (n - (k + 1))
        case measure => omega
        case rel =>
          have hb1 := HB1.out
          refine ⟨k + 1, some ⟨g5, 0, none⟩, cap5, by omega, rfl, by go_num, ?_, ?_, ?_, ⟨?_, ?_⟩, ?_⟩
          · show OwnP _ _ _ _
            exact OP8.out.far (by omega)
          · exact Lib.hid (OwnC.blk OC8.out HQ8.out (by decide) (by decide))
          · show Below _ _ _
            exact HB8.out.setCell (p := ⟨w1.heap.size, 0, none⟩) (by show w.heap.size ≤ w1.heap.size; omega) _
          · exact HR8.out.far (by omega) _
          · exact HP8.out.far (by omega) _
          · show Blk _ _ _ _
            exact HQ8.out.set_ 0 _
    · obtain rfl : k = n := by omega
      have hlt' : ¬ (k : Int) < (k : Int) := by omega
      have e : m.tops.take k = m.tops := by rw [HN.out]; exact List.take_length
      have OP6 := OP.out
      rw [e] at OP6
      have OP7 := Lib.hid OP6
      have hb1 := HB1.out
      have rl := HR.out.lt
      obtain ⟨r0, r1, rz⟩ := cells2 HR.out
      clear e OP6 OP
      go_wp2_with fail
      obtain ⟨t0, t1, -⟩ := cells2 ((HR.out.set_ 0 (.slice al k capl)).set_ 1 (.slice ac nac cac))
      refine bodyPost_ret (v := .agg #[.slice al k capl, .slice ac nac cac]) (by simp [results, Try.results9, go_sem, t0, t1]) rfl ⟨_, _, rfl, ⟨_, _, rfl, ?_, ?_⟩, ?_⟩
      · exact OwnP.le ((OP7.out.far (by omega)).far (by omega)) (by omega)
      · exact OwnRows.le (OwnC.far (OwnC.far OC.out (by omega)) (by omega)) (by omega)
      · exact (HB.out.setCell (by simp) _).setCell (by simp) _
end Go.Proofs.Ytblgmjbajnkcdab
