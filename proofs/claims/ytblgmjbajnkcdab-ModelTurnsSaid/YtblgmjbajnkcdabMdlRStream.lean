/-
  The document's Stream: the stream that a model stands for, or the error.
-/
import Derived.Test.YtblgmjbajnkcdabMdlStream
import Derived.Test.YtblgmjbajnkcdabMdlRTwin
import Derived.Test.YtblgmjbajnkcdabMdlMay
import Derived.Test.YtblgmjbajnkcdabMdlPut
import Derived.Test.YtblgmjbajnkcdabBunK
import Derived.Deep.RegionHeld3
namespace Go.Proofs.Ytblgmjbajnkcdab
open Go.RowKit

set_option maxHeartbeats 8000000 in
set_option maxRecDepth 100000 in
theorem mdlRStream_any {v : Value} {m : Mdl} {w : World} {u : Str} {x : Int} (h : MdlR w v m) (hu : streamE m = (u, x)) :
    Calls Try.prog 22 #[v] w (DoEnd u x w) := by
  obtain ⟨i0, hi, hz0, hz1, hz2⟩ := info_parts info_top
  have S := Lib.hid h
  obtain ⟨a, cap, b, nc, cc, rfl, hT, hR⟩ := h.shape
  by_cases hm : mayM m
  · rw [streamE, if_pos hm] at hu
    cases hu
    have HC := Lib.hid (show true = decide (mayM m) by simp [hm])
    have HSH := Lib.hid (mayM_shaped hm)
    have HFT := Lib.hid (fit_of_may hm)
    obtain ⟨aa, ccap, hv, hcap, hmx, _, hd⟩ := hT.shape
    cases hv
    have HD := Lib.hid hd
    have RR := Lib.hid hR
    obtain ⟨n, hn⟩ : ∃ n, n = m.tops.length := ⟨_, rfl⟩
    rw [← hn] at HD hcap S ⊢
    have HN := Lib.hid hn
    have h4 : n = 4 := by rw [hn]; exact hm.1.1
    subst h4
    unfold maxLen at hmx
    clear hT hR hd hn h hm
    go_enter Try.func22, Try.ntmps22
    go_wp2_with fail
    refine Calls.mono (refMdlMay_any ?_ HC.out) ?_
    · exact S.out.below (by repeat (first | (with_reducible exact Below.refl _ _) | (with_reducible exact Below.refl _ _) | (with_reducible apply Below.drew) | (with_reducible apply below_alloc) | ((with_reducible refine Below.alloc ?_ ?_ _); rotate_left; focus (first | (simp; done) | (simp; omega) | omega)) | ((with_reducible refine Below.setCell ?_ ?_ _); rotate_left; focus (first | (simp; done) | (simp; omega) | omega))))
    rintro e w1 ⟨rfl, hb⟩
    have HB : Hid (Below w.heap.size w _) := below_step (by repeat (first | (with_reducible exact Below.refl _ _) | (with_reducible exact Below.refl _ _) | (with_reducible apply Below.drew) | (with_reducible apply below_alloc) | ((with_reducible refine Below.alloc ?_ ?_ _); rotate_left; focus (first | (simp; done) | (simp; omega) | omega)) | ((with_reducible refine Below.setCell ?_ ?_ _); rotate_left; focus (first | (simp; done) | (simp; omega) | omega)))) hb
    have P : Blk _ (w.heap.size) _ _ := Blk.step (by repeat (first | ((with_reducible apply Blk.new); focus (first | rfl | (simp; done) | (simp; omega))) | (with_reducible apply Blk.drew) | (with_reducible apply Blk.alloc) | (with_reducible apply Blk.set_) | ((with_reducible apply Blk.far); rotate_left; focus (first | (simp; done) | (simp; omega) | omega)))) hb
    obtain ⟨p0, p1, pz⟩ := cells2 P
    have pl := Blk.lt P
    have HP := Lib.hid P
    clear P
    have R : Blk _ (w.heap.size + 1) _ _ := Blk.step (by repeat (first | ((with_reducible apply Blk.new); focus (first | rfl | (simp; done) | (simp; omega))) | (with_reducible apply Blk.drew) | (with_reducible apply Blk.alloc) | (with_reducible apply Blk.set_) | ((with_reducible apply Blk.far); rotate_left; focus (first | (simp; done) | (simp; omega) | omega)))) hb
    obtain ⟨r0, r1, rz⟩ := cells2 R
    have rl := Blk.lt R
    have HR := Lib.hid R
    clear R
    clear hb
    go_wp2_with fail
    refine Calls.mono (refTwin_any (m := m.coms) ?_ HFT.out.2.1) ?_
    · exact RR.out.below (by repeat (first | (with_reducible exact HB.out) | (with_reducible exact Below.refl _ _) | (with_reducible apply Below.drew) | (with_reducible apply below_alloc) | ((with_reducible refine Below.alloc ?_ ?_ _); rotate_left; focus (first | (simp; done) | (simp; omega) | omega)) | ((with_reducible refine Below.setCell ?_ ?_ _); rotate_left; focus (first | (simp; done) | (simp; omega) | omega))))
    rintro e w2 ⟨vc, rfl, oc, hb⟩
    obtain ⟨ac, nac, cac, rfl⟩ := oc.reads.shape
    have s0 : w.heap.size + 2 ≤ w1.heap.size := rl
    replace HB : Hid (Below w.heap.size w _) := below_step (by repeat (first | (with_reducible exact HB.out) | (with_reducible exact Below.refl _ _) | (with_reducible apply Below.drew) | (with_reducible apply below_alloc) | ((with_reducible refine Below.alloc ?_ ?_ _); rotate_left; focus (first | (simp; done) | (simp; omega) | omega)) | ((with_reducible refine Below.setCell ?_ ?_ _); rotate_left; focus (first | (simp; done) | (simp; omega) | omega)))) hb
    clear p0 p1 pz pl
    replace HP : Hid (Blk _ (w.heap.size) _ _) := Blk.step (by repeat (first | (with_reducible exact HP.out) | ((with_reducible apply Blk.new); focus (first | rfl | (simp; done) | (simp; omega))) | (with_reducible apply Blk.drew) | (with_reducible apply Blk.alloc) | (with_reducible apply Blk.set_) | ((with_reducible apply Blk.far); rotate_left; focus (first | (simp; done) | (simp; omega) | omega)))) hb
    obtain ⟨p0, p1, pz⟩ := cells2 HP.out
    have pl := Blk.lt HP.out
    clear r0 r1 rz rl
    replace HR : Hid (Blk _ (w.heap.size + 1) _ _) := Blk.step (by repeat (first | (with_reducible exact HR.out) | ((with_reducible apply Blk.new); focus (first | rfl | (simp; done) | (simp; omega))) | (with_reducible apply Blk.drew) | (with_reducible apply Blk.alloc) | (with_reducible apply Blk.set_) | ((with_reducible apply Blk.far); rotate_left; focus (first | (simp; done) | (simp; omega) | omega)))) hb
    obtain ⟨r0, r1, rz⟩ := cells2 HR.out
    have rl := Blk.lt HR.out
    have OC : Hid (OwnC w2 (w.heap.size + 2) _ _) := oc.le (by omega)
    have s1 : w.heap.size + 2 ≤ w2.heap.size := rl
    have HB1 := Lib.hid s1
    clear hb oc s0
    go_wp2_with fail
    go_loopg [5] 4 (fun g i wr => ∃ (k : Nat) (al : Option Addr) (capl : Nat), k ≤ 4 ∧ g = 4 - k ∧ i = .int .i64 (k : Int) ∧ Hid (OwnT wr (w2.heap.size + 1) (.slice al k capl) ((m.tops.map topM).take k)) ∧ Hid (OwnC wr (w.heap.size + 2) (.slice ac nac cac) m.coms) ∧ Hid (Below w.heap.size w wr) ∧
      Hid (Blk wr w.heap.size 25 [.slice a 4 cap, .slice b nc cc]) ∧ Hid (Blk wr (w.heap.size + 1) 58 [.slice none 0 0, .slice none 0 0]) ∧ Hid (Blk wr w2.heap.size 58 [.slice al k capl, .slice ac nac cac]))
    case atStart =>
      refine ⟨0, none, 0, Nat.zero_le _, rfl, rfl, OwnT.nil _ _, OC.out.alloc _, ?_, ?_, ?_, ?_⟩
      · show Below _ _ _
        repeat (first | (with_reducible exact HB.out) | (with_reducible exact Below.refl _ _) | (with_reducible apply Below.drew) | (with_reducible apply below_alloc) | ((with_reducible refine Below.alloc ?_ ?_ _); rotate_left; focus (first | (simp; done) | (simp; omega) | omega)) | ((with_reducible refine Below.setCell ?_ ?_ _); rotate_left; focus (first | (simp; done) | (simp; omega) | omega)))
      · show Blk _ _ _ _
        repeat (first | (with_reducible exact HP.out) | ((with_reducible apply Blk.new); focus (first | rfl | (simp; done) | (simp; omega))) | (with_reducible apply Blk.drew) | (with_reducible apply Blk.alloc) | (with_reducible apply Blk.set_) | ((with_reducible apply Blk.far); rotate_left; focus (first | (simp; done) | (simp; omega) | omega)))
      · show Blk _ _ _ _
        repeat (first | (with_reducible exact HR.out) | ((with_reducible apply Blk.new); focus (first | rfl | (simp; done) | (simp; omega))) | (with_reducible apply Blk.drew) | (with_reducible apply Blk.alloc) | (with_reducible apply Blk.set_) | ((with_reducible apply Blk.far); rotate_left; focus (first | (simp; done) | (simp; omega) | omega)))
      · show Blk _ _ _ _
        exact Blk.new rfl
    case round =>
      clear OC HB HP HR p0 p1 pz pl r0 r1 rz rl
      obtain ⟨k, al, capl, hk, rfl, rfl, OT, OC, HB, HP, HR, HQ⟩ := hrel
      obtain ⟨q0, q1, qz⟩ := cells2 HQ.out
      obtain ⟨p0, p1, pz⟩ := cells2 HP.out
      have ql := HQ.out.lt
      have pl := HP.out.lt
      by_cases hlt : k < 4
      · have hk0 : (0 : Int) ≤ (k : Int) := by omega
        have hk1 : (k : Int) < 4 := by omega
        obtain ⟨g, off, ha, hat⟩ := HD.out (by omega)
        subst ha
        obtain ⟨ea, ecap, ⟨⟨c0, c1⟩, c2⟩, hTT⟩ := (hat k hlt).keep HB.out
        have T := Lib.hid hTT
        have hg1 : g < wr.heap.size := World.block_lt_of_cell? wr _ c0
        obtain ⟨y, hy⟩ : ∃ y, y = m.tops.getD k default := ⟨_, rfl⟩
        rw [← hy] at c0 c1 c2 T
        have hkl : k < m.tops.length := by rw [← HN.out]; exact hlt
        have HSY := Lib.hid (show shapedP y by rw [hy, getD_lt hkl]; exact HSH.out _ (List.getElem_mem hkl))
        obtain ⟨x, hx⟩ : ∃ x, x = topM y := ⟨_, rfl⟩
        have HX := Lib.hid hx
        have HTK := Lib.hid (show (m.tops.map topM).take (k + 1) = (m.tops.map topM).take k ++ [x] by
          rw [hx, hy, List.take_succ_eq_append_getElem (by simpa using hkl), getD_lt hkl]
          simp)
        have hlk : ((m.tops.map topM).take k).length = k := by rw [List.length_take, List.length_map]; omega
        have HLK := Lib.hid hlk
        obtain ⟨ps, hpl, hrow, hent⟩ := OT.out
        rw [hlk] at hrow
        have HROW := Lib.hid hrow
        have HPL := Lib.hid hpl
        have HENT := Lib.hid hent
        obtain ⟨an, hna⟩ : ∃ an, an = y.all.length := ⟨_, rfl⟩
        have HAN := Lib.hid hna
        rw [← hna] at c0 T
        obtain ⟨yb, hyb⟩ : ∃ yb, yb = y.base := ⟨_, rfl⟩
        obtain ⟨ym, hym⟩ : ∃ ym, ym = y.mark := ⟨_, rfl⟩
        have HYB := Lib.hid hyb
        have HYM := Lib.hid hym
        rw [← hyb] at c1 T
        rw [← hym] at c2 T
        have KT : Hid (∀ (W : World) {v : Value}, PlR W v y → Calls Try.prog 51 #[v] W (CloneEnd x.ents W)) := Lib.hid (fun W v hW => by rw [HX.out]; exact refEntries_any hW HSY.out)
        obtain ⟨xe, hxe⟩ : ∃ xe, xe = x.ents := ⟨_, rfl⟩
        have hxx : x = ⟨yb, (an : Int), ym, xe⟩ := by rw [hxe, hx, hyb, hna, hym]; rfl
        rw [← hxe] at KT
        have HTX := Lib.hid (show (m.tops.map topM).take (k + 1) = (m.tops.map topM).take k ++ [(⟨yb, (an : Int), ym, xe⟩ : Top)] by rw [HTK.out, hxx])
        clear hat hTT hx hy hlk hpl hrow hent hna hyb hym hxx hxe HTK
        go_wp2_with fail
        have HX0 := Lib.hid (Blk.new (w := wr) (t := 84) (g := wr.heap.size) (cs := [.slice ea an ecap, .int .i64 yb, .int .i64 ym]) rfl)
        have KS : Hid (∀ W' : World, Blk W' wr.heap.size 84 [.slice ea an ecap, .int .i64 yb, .int .i64 ym] → (W'.cell? ⟨wr.heap.size, 0, none⟩ = some (.slice ea an ecap) ∧ W'.cell? ⟨wr.heap.size, 1, none⟩ = some (.int .i64 yb)) ∧ W'.cell? ⟨wr.heap.size, 2, none⟩ = some (.int .i64 ym)) := fun W' hX => ⟨⟨(cells3 hX).1, (cells3 hX).2.1⟩, (cells3 hX).2.2.1⟩
        have KT0 := KS.out _ (HX0.out.drew)
        refine wp_region_held_drew (S := (fun W' => (W'.cell? ⟨wr.heap.size, 0, none⟩ = some (.slice ea an ecap) ∧ W'.cell? ⟨wr.heap.size, 1, none⟩ = some (.int .i64 yb)) ∧ W'.cell? ⟨wr.heap.size, 2, none⟩ = some (.int .i64 ym))) (by kernel_rfl) KT0 (fun hHeld => ?_)
        refine' wpAnyH_take (i := 0) (oi := _) (v := _) ?hi1 (by kernel_rfl) (by kernel_rfl) (by kernel_rfl) ?hq1 (Or.inl ⟨?hw1, ?hy1⟩) (by assumption) ?rest1
        case hi1 => simp only [List.getElem?_toArray, List.getElem?_cons_zero]; rfl
        case hq1 => exact fun _ _ _ h => h
        case hw1 => rfl
        case hy1 => intro wh hSw; (try dsimp only at hSw); go_simp; (try with_reducible rfl)
        (try simp only [Act.put, List.setIfInBounds_toArray, List.set_cons_zero, List.set_cons_succ])
        refine' wpAnyH_take (i := 2) (oi := _) (v := _) ?hi2 (by kernel_rfl) (by kernel_rfl) (by kernel_rfl) ?hq2 (Or.inl ⟨?hw2, ?hy2⟩) (by assumption) ?rest2
        case hi2 => simp only [List.getElem?_toArray, List.getElem?_cons_succ, List.getElem?_cons_zero]; rfl
        case hq2 => exact fun _ _ _ h => h
        case hw2 => rfl
        case hy2 => intro wh hSw; (try dsimp only at hSw); go_simp; (try with_reducible rfl)
        (try simp only [Act.put, List.setIfInBounds_toArray, List.set_cons_zero, List.set_cons_succ])
        refine' wpAnyH_take (i := 4) (oi := _) (v := _) ?hi3 (by kernel_rfl) (by kernel_rfl) (by kernel_rfl) ?hq3 (Or.inl ⟨?hw3, ?hy3⟩) (by assumption) ?rest3
        case hi3 => simp only [List.getElem?_toArray, List.getElem?_cons_succ, List.getElem?_cons_zero]; rfl
        case hq3 => exact fun _ _ _ h => h
        case hw3 => rfl
        case hy3 => intro wh hSw; (try dsimp only at hSw); go_simp; (try with_reducible rfl)
        (try simp only [Act.put, List.setIfInBounds_toArray, List.set_cons_zero, List.set_cons_succ])
        refine' wpAnyH_take (i := 7) (oi := _) (v := _) ?hi4 (by kernel_rfl) (by kernel_rfl) (by kernel_rfl) ?hq4 (Or.inl ⟨?hw4, ?hy4⟩) (by assumption) ?rest4
        case hi4 => simp only [List.getElem?_toArray, List.getElem?_cons_succ, List.getElem?_cons_zero]; rfl
        case hq4 => exact fun _ _ _ h => h
        case hw4 => rfl
        case hy4 => intro wh hSw; (try dsimp only at hSw); go_simp; (try with_reducible rfl)
        (try simp only [Act.put, List.setIfInBounds_toArray, List.set_cons_zero, List.set_cons_succ])
        refine' wpAnyH_take (i := 3) (oi := _) (v := _) ?hi5 (by kernel_rfl) (by kernel_rfl) (by kernel_rfl) ?hq5 (Or.inl ⟨?hw5, ?hy5⟩) (by assumption) ?rest5
        case hi5 => simp only [List.getElem?_toArray, List.getElem?_cons_succ, List.getElem?_cons_zero]; rfl
        case hq5 => exact fun _ _ _ h => h
        case hw5 => rfl
        case hy5 => intro wh hSw; (try dsimp only at hSw); go_simp; (try with_reducible rfl)
        (try simp only [Act.put, List.setIfInBounds_toArray, List.set_cons_zero, List.set_cons_succ])
        refine' wpAnyH_take (i := 5) (oi := _) (v := _) ?hi6 (by kernel_rfl) (by kernel_rfl) (by kernel_rfl) ?hq6 (Or.inl ⟨?hw6, ?hy6⟩) (by assumption) ?rest6
        case hi6 => simp only [List.getElem?_toArray, List.getElem?_cons_succ, List.getElem?_cons_zero]; rfl
        case hq6 => exact fun _ _ _ h => h
        case hw6 => rfl
        case hy6 => intro wh hSw; (try dsimp only at hSw); go_simp; (try with_reducible rfl)
        (try simp only [Act.put, List.setIfInBounds_toArray, List.set_cons_zero, List.set_cons_succ])
        refine' wpAnyH_take (i := 6) (oi := _) (v := _) ?hi7 (by kernel_rfl) (by kernel_rfl) (by kernel_rfl) ?hq7 (Or.inl ⟨?hw7, ?hy7⟩) (by assumption) ?rest7
        case hi7 => simp only [List.getElem?_toArray, List.getElem?_cons_succ, List.getElem?_cons_zero]; rfl
        case hq7 => exact fun _ _ _ h => h
        case hw7 => rfl
        case hy7 => intro wh hSw; (try dsimp only at hSw); go_simp; (try with_reducible rfl)
        (try simp only [Act.put, List.setIfInBounds_toArray, List.set_cons_zero, List.set_cons_succ])
        refine' wpAnyH_take (i := 8) (oi := _) (v := _) ?hi8 (by kernel_rfl) (by kernel_rfl) (by kernel_rfl) ?hq8 (Or.inl ⟨?hw8, ?hy8⟩) (by assumption) ?rest8
        case hi8 => simp only [List.getElem?_toArray, List.getElem?_cons_succ, List.getElem?_cons_zero]; rfl
        case hq8 => exact fun _ _ _ h => h
        case hw8 => rfl
        case hy8 => intro wh hSw; (try dsimp only at hSw); go_simp; (try with_reducible rfl)
        (try simp only [Act.put, List.setIfInBounds_toArray, List.set_cons_zero, List.set_cons_succ])
        refine' wpAnyH_take (i := 9) (oi := _) (v := _) ?hi9 (by kernel_rfl) (by kernel_rfl) (by kernel_rfl) ?hq9 (Or.inl ⟨?hw9, ?hy9⟩) (by assumption) ?rest9
        case hi9 => simp only [List.getElem?_toArray, List.getElem?_cons_succ, List.getElem?_cons_zero]; rfl
        case hq9 => exact fun _ _ _ h => h
        case hw9 => rfl
        case hy9 => intro wh hSw; (try dsimp only at hSw); go_simp; (try with_reducible rfl)
        (try simp only [Act.put, List.setIfInBounds_toArray, List.set_cons_zero, List.set_cons_succ])
        refine wpAnyH_ready (rs := [1, 10]) (by kernel_rfl) (by simp) ?_
        refine' AllReadyH.cons (o := _) ?hi10 (fun K hK => ?st10) ?more10
        case hi10 => simp only [List.getElem?_toArray, List.getElem?_cons_succ, List.getElem?_cons_zero]; rfl
        go_simp
        refine hK.out _ _ ?keep10 (fun hHeld => ?go10)
        case keep10 => first | (with_reducible exact KT0) | (refine KS.out _ ?_; (repeat (first | (with_reducible exact HX0.out) | ((with_reducible apply Blk.new); focus (first | rfl | (simp; done) | (simp; omega))) | (with_reducible apply Blk.drew) | (with_reducible apply Blk.alloc) | (with_reducible apply Blk.set_) | ((with_reducible apply Blk.far); rotate_left; focus (first | (simp; done) | (simp; omega) | omega)))); done) | (refine KS.out _ ?_; (repeat (first | (with_reducible exact HX4.out) | ((with_reducible apply Blk.new); focus (first | rfl | (simp; done) | (simp; omega))) | (with_reducible apply Blk.drew) | (with_reducible apply Blk.alloc) | (with_reducible apply Blk.set_) | ((with_reducible apply Blk.far); rotate_left; focus (first | (simp; done) | (simp; omega) | omega)))); done) | (refine KS.out _ ?_; (repeat (first | (with_reducible exact HX5.out) | ((with_reducible apply Blk.new); focus (first | rfl | (simp; done) | (simp; omega))) | (with_reducible apply Blk.drew) | (with_reducible apply Blk.alloc) | (with_reducible apply Blk.set_) | ((with_reducible apply Blk.far); rotate_left; focus (first | (simp; done) | (simp; omega) | omega)))); done)
        clear hK K
        (try simp only [Act.put, List.setIfInBounds_toArray, List.set_cons_zero, List.set_cons_succ])
        refine wpAnyH_ready (rs := [10]) (by kernel_rfl) (by simp) ?_
        refine' AllReadyH.cons (o := _) ?hi11 (fun K hK => ?st11) ?more11
        case hi11 => simp only [List.getElem?_toArray, List.getElem?_cons_succ, List.getElem?_cons_zero]; rfl
        case more11 => exact AllReadyH.nil
        first | (go_simp; go_at_call 51; refine (KT.out _ (T.out.below (by repeat (first | (with_reducible exact Below.refl _ _) | (with_reducible exact Below.refl _ _) | (with_reducible apply Below.drew) | (with_reducible apply below_alloc) | ((with_reducible refine Below.alloc ?_ ?_ _); rotate_left; focus (first | (simp; done) | (simp; omega) | omega)) | ((with_reducible refine Below.setCell ?_ ?_ _); rotate_left; focus (first | (simp; done) | (simp; omega) | omega)))))).mono ?_; rintro e w4 ⟨a4, c4, rfl, o4, hb⟩; have HQ4 := Lib.hid (Blk.step (Blk.drew (Blk.alloc HQ.out _)) hb); have HX4 := Lib.hid (Blk.step (Blk.drew HX0.out) hb); have HW4 : Hid (Below wr.heap.size wr w4) := below_step (by repeat (first | (with_reducible exact Below.refl _ _) | (with_reducible exact Below.refl _ _) | (with_reducible apply Below.drew) | (with_reducible apply below_alloc) | ((with_reducible refine Below.alloc ?_ ?_ _); rotate_left; focus (first | (simp; done) | (simp; omega) | omega)) | ((with_reducible refine Below.setCell ?_ ?_ _); rotate_left; focus (first | (simp; done) | (simp; omega) | omega)))) hb; have O4 := Lib.hid (own_base (B' := w2.heap.size + 1) o4 (by simp; omega)); have hz4 : wr.heap.size < w4.heap.size := HX4.out.lt; have hy4 : w2.heap.size < w4.heap.size := HQ4.out.lt; obtain ⟨m0, m1, mz⟩ := cells2 HQ4.out; clear hb o4; (try dsimp only)) | (refine step_append_own_any rfl _ _ 56 rfl (w2.heap.size + 1) 70 i0 _ 4 48 Try.underlying56 hi hz0 hz1 hz2 rfl (by decide) _ k _ rfl ((ownsRow_keep HROW.out HW4.out).alloc _) (some ⟨w4.heap.size, 0, none⟩) 1 1 (topCells (.slice a4 xe.length c4, ⟨yb, (an : Int), ym, xe⟩)) rfl rfl (fun e => by cases e) (by intro ad had; cases had; exact news_top (.slice a4 xe.length c4) ⟨yb, (an : Int), ym, xe⟩ rfl) (topCells_one _ _ _ ⟨yb, (an : Int), ym, xe⟩) (by unfold maxLen; omega) (by omega) (by simp; omega) ?_; intro v5 w5 hown hgrow; obtain ⟨g5, cap5, rfl⟩ : ∃ g5 cap5, v5 = .slice (some ⟨g5, 0, none⟩) (k + 1) cap5 := (by rcases hown.2 with ⟨_, h0⟩ | ⟨g5, cp, _, e, _⟩; exact absurd h0 (by omega); exact ⟨g5, cp, e⟩); have HQ5 := Lib.hid (Blk.grown (HQ4.out.alloc _) hgrow (fun e => Nat.lt_irrefl _ (HROW.out.lt _ e).1)); have HX5 := Lib.hid (Blk.grown (HX4.out.alloc _) hgrow (fun e => by have := (HROW.out.lt _ e).2; omega)); obtain ⟨m0, m1, mz⟩ := cells2 HQ5.out; have HOWN := Lib.hid hown; have HGR := Lib.hid hgrow; clear hown hgrow)
        refine hK.out _ _ ?keep11 (fun hHeld => ?go11)
        case keep11 => first | (with_reducible exact KT0) | (refine KS.out _ ?_; (repeat (first | (with_reducible exact HX0.out) | ((with_reducible apply Blk.new); focus (first | rfl | (simp; done) | (simp; omega))) | (with_reducible apply Blk.drew) | (with_reducible apply Blk.alloc) | (with_reducible apply Blk.set_) | ((with_reducible apply Blk.far); rotate_left; focus (first | (simp; done) | (simp; omega) | omega)))); done) | (refine KS.out _ ?_; (repeat (first | (with_reducible exact HX4.out) | ((with_reducible apply Blk.new); focus (first | rfl | (simp; done) | (simp; omega))) | (with_reducible apply Blk.drew) | (with_reducible apply Blk.alloc) | (with_reducible apply Blk.set_) | ((with_reducible apply Blk.far); rotate_left; focus (first | (simp; done) | (simp; omega) | omega)))); done) | (refine KS.out _ ?_; (repeat (first | (with_reducible exact HX5.out) | ((with_reducible apply Blk.new); focus (first | rfl | (simp; done) | (simp; omega))) | (with_reducible apply Blk.drew) | (with_reducible apply Blk.alloc) | (with_reducible apply Blk.set_) | ((with_reducible apply Blk.far); rotate_left; focus (first | (simp; done) | (simp; omega) | omega)))); done)
        clear hK K
        (try simp only [Act.put, List.setIfInBounds_toArray, List.set_cons_zero, List.set_cons_succ])
        refine' wpAnyH_take (i := 11) (oi := _) (v := _) ?hi12 (by kernel_rfl) (by kernel_rfl) (by kernel_rfl) ?hq12 (Or.inl ⟨?hw12, ?hy12⟩) (by assumption) ?rest12
        case hi12 => simp only [List.getElem?_toArray, List.getElem?_cons_succ, List.getElem?_cons_zero]; rfl
        case hq12 => exact fun _ _ _ h => h
        case hw12 => rfl
        case hy12 => intro wh hSw; (try dsimp only at hSw); go_simp; (try with_reducible rfl)
        (try simp only [Act.put, List.setIfInBounds_toArray, List.set_cons_zero, List.set_cons_succ])
        refine wpAnyH_ready (rs := [12]) (by kernel_rfl) (by simp) ?_
        refine' AllReadyH.cons (o := _) ?hi13 (fun K hK => ?st13) ?more13
        case hi13 => simp only [List.getElem?_toArray, List.getElem?_cons_succ, List.getElem?_cons_zero]; rfl
        case more13 => exact AllReadyH.nil
        go_simp
        refine hK.out _ _ ?keep13 (fun hHeld => ?go13)
        case keep13 => first | (with_reducible exact KT0) | (refine KS.out _ ?_; (repeat (first | (with_reducible exact HX0.out) | ((with_reducible apply Blk.new); focus (first | rfl | (simp; done) | (simp; omega))) | (with_reducible apply Blk.drew) | (with_reducible apply Blk.alloc) | (with_reducible apply Blk.set_) | ((with_reducible apply Blk.far); rotate_left; focus (first | (simp; done) | (simp; omega) | omega)))); done) | (refine KS.out _ ?_; (repeat (first | (with_reducible exact HX4.out) | ((with_reducible apply Blk.new); focus (first | rfl | (simp; done) | (simp; omega))) | (with_reducible apply Blk.drew) | (with_reducible apply Blk.alloc) | (with_reducible apply Blk.set_) | ((with_reducible apply Blk.far); rotate_left; focus (first | (simp; done) | (simp; omega) | omega)))); done) | (refine KS.out _ ?_; (repeat (first | (with_reducible exact HX5.out) | ((with_reducible apply Blk.new); focus (first | rfl | (simp; done) | (simp; omega))) | (with_reducible apply Blk.drew) | (with_reducible apply Blk.alloc) | (with_reducible apply Blk.set_) | ((with_reducible apply Blk.far); rotate_left; focus (first | (simp; done) | (simp; omega) | omega)))); done)
        clear hK K
        (try simp only [Act.put, List.setIfInBounds_toArray, List.set_cons_zero, List.set_cons_succ])
        refine wpAnyH_ready (rs := [13]) (by kernel_rfl) (by simp) ?_
        refine' AllReadyH.cons (o := _) ?hi14 (fun K hK => ?st14) ?more14
        case hi14 => simp only [List.getElem?_toArray, List.getElem?_cons_succ, List.getElem?_cons_zero]; rfl
        case more14 => exact AllReadyH.nil
        first | (go_simp; go_at_call 51; refine (KT.out _ (T.out.below (by repeat (first | (with_reducible exact Below.refl _ _) | (with_reducible exact Below.refl _ _) | (with_reducible apply Below.drew) | (with_reducible apply below_alloc) | ((with_reducible refine Below.alloc ?_ ?_ _); rotate_left; focus (first | (simp; done) | (simp; omega) | omega)) | ((with_reducible refine Below.setCell ?_ ?_ _); rotate_left; focus (first | (simp; done) | (simp; omega) | omega)))))).mono ?_; rintro e w4 ⟨a4, c4, rfl, o4, hb⟩; have HQ4 := Lib.hid (Blk.step (Blk.drew (Blk.alloc HQ.out _)) hb); have HX4 := Lib.hid (Blk.step (Blk.drew HX0.out) hb); have HW4 : Hid (Below wr.heap.size wr w4) := below_step (by repeat (first | (with_reducible exact Below.refl _ _) | (with_reducible exact Below.refl _ _) | (with_reducible apply Below.drew) | (with_reducible apply below_alloc) | ((with_reducible refine Below.alloc ?_ ?_ _); rotate_left; focus (first | (simp; done) | (simp; omega) | omega)) | ((with_reducible refine Below.setCell ?_ ?_ _); rotate_left; focus (first | (simp; done) | (simp; omega) | omega)))) hb; have O4 := Lib.hid (own_base (B' := w2.heap.size + 1) o4 (by simp; omega)); have hz4 : wr.heap.size < w4.heap.size := HX4.out.lt; have hy4 : w2.heap.size < w4.heap.size := HQ4.out.lt; obtain ⟨m0, m1, mz⟩ := cells2 HQ4.out; clear hb o4; (try dsimp only)) | (refine step_append_own_any rfl _ _ 56 rfl (w2.heap.size + 1) 70 i0 _ 4 48 Try.underlying56 hi hz0 hz1 hz2 rfl (by decide) _ k _ rfl ((ownsRow_keep HROW.out HW4.out).alloc _) (some ⟨w4.heap.size, 0, none⟩) 1 1 (topCells (.slice a4 xe.length c4, ⟨yb, (an : Int), ym, xe⟩)) rfl rfl (fun e => by cases e) (by intro ad had; cases had; exact news_top (.slice a4 xe.length c4) ⟨yb, (an : Int), ym, xe⟩ rfl) (topCells_one _ _ _ ⟨yb, (an : Int), ym, xe⟩) (by unfold maxLen; omega) (by omega) (by simp; omega) ?_; intro v5 w5 hown hgrow; obtain ⟨g5, cap5, rfl⟩ : ∃ g5 cap5, v5 = .slice (some ⟨g5, 0, none⟩) (k + 1) cap5 := (by rcases hown.2 with ⟨_, h0⟩ | ⟨g5, cp, _, e, _⟩; exact absurd h0 (by omega); exact ⟨g5, cp, e⟩); have HQ5 := Lib.hid (Blk.grown (HQ4.out.alloc _) hgrow (fun e => Nat.lt_irrefl _ (HROW.out.lt _ e).1)); have HX5 := Lib.hid (Blk.grown (HX4.out.alloc _) hgrow (fun e => by have := (HROW.out.lt _ e).2; omega)); obtain ⟨m0, m1, mz⟩ := cells2 HQ5.out; have HOWN := Lib.hid hown; have HGR := Lib.hid hgrow; clear hown hgrow)
        refine hK.out _ _ ?keep14 (fun hHeld => ?go14)
        case keep14 => first | (with_reducible exact KT0) | (refine KS.out _ ?_; (repeat (first | (with_reducible exact HX0.out) | ((with_reducible apply Blk.new); focus (first | rfl | (simp; done) | (simp; omega))) | (with_reducible apply Blk.drew) | (with_reducible apply Blk.alloc) | (with_reducible apply Blk.set_) | ((with_reducible apply Blk.far); rotate_left; focus (first | (simp; done) | (simp; omega) | omega)))); done) | (refine KS.out _ ?_; (repeat (first | (with_reducible exact HX4.out) | ((with_reducible apply Blk.new); focus (first | rfl | (simp; done) | (simp; omega))) | (with_reducible apply Blk.drew) | (with_reducible apply Blk.alloc) | (with_reducible apply Blk.set_) | ((with_reducible apply Blk.far); rotate_left; focus (first | (simp; done) | (simp; omega) | omega)))); done) | (refine KS.out _ ?_; (repeat (first | (with_reducible exact HX5.out) | ((with_reducible apply Blk.new); focus (first | rfl | (simp; done) | (simp; omega))) | (with_reducible apply Blk.drew) | (with_reducible apply Blk.alloc) | (with_reducible apply Blk.set_) | ((with_reducible apply Blk.far); rotate_left; focus (first | (simp; done) | (simp; omega) | omega)))); done)
        clear hK K
        (try simp only [Act.put, List.setIfInBounds_toArray, List.set_cons_zero, List.set_cons_succ])
        refine' wpAnyH_take (i := 14) (oi := _) (v := _) ?hi15 (by kernel_rfl) (by kernel_rfl) (by kernel_rfl) ?hq15 (Or.inl ⟨?hw15, ?hy15⟩) (by assumption) ?rest15
        case hi15 => simp only [List.getElem?_toArray, List.getElem?_cons_succ, List.getElem?_cons_zero]; rfl
        case hq15 => exact fun _ _ _ h => h
        case hw15 => rfl
        case hy15 => intro wh hSw; (try dsimp only at hSw); go_simp; (try with_reducible rfl)
        (try simp only [Act.put, List.setIfInBounds_toArray, List.set_cons_zero, List.set_cons_succ])
        refine wpAnyH_ready (rs := [15]) (by kernel_rfl) (by simp) ?_
        refine' AllReadyH.cons (o := _) ?hi16 (fun K hK => ?st16) ?more16
        case hi16 => simp only [List.getElem?_toArray, List.getElem?_cons_succ, List.getElem?_cons_zero]; rfl
        case more16 => exact AllReadyH.nil
        go_simp
        refine hK.out _ _ ?keep16 (fun hHeld => ?go16)
        case keep16 => first | (with_reducible exact KT0) | (refine KS.out _ ?_; (repeat (first | (with_reducible exact HX0.out) | ((with_reducible apply Blk.new); focus (first | rfl | (simp; done) | (simp; omega))) | (with_reducible apply Blk.drew) | (with_reducible apply Blk.alloc) | (with_reducible apply Blk.set_) | ((with_reducible apply Blk.far); rotate_left; focus (first | (simp; done) | (simp; omega) | omega)))); done) | (refine KS.out _ ?_; (repeat (first | (with_reducible exact HX4.out) | ((with_reducible apply Blk.new); focus (first | rfl | (simp; done) | (simp; omega))) | (with_reducible apply Blk.drew) | (with_reducible apply Blk.alloc) | (with_reducible apply Blk.set_) | ((with_reducible apply Blk.far); rotate_left; focus (first | (simp; done) | (simp; omega) | omega)))); done) | (refine KS.out _ ?_; (repeat (first | (with_reducible exact HX5.out) | ((with_reducible apply Blk.new); focus (first | rfl | (simp; done) | (simp; omega))) | (with_reducible apply Blk.drew) | (with_reducible apply Blk.alloc) | (with_reducible apply Blk.set_) | ((with_reducible apply Blk.far); rotate_left; focus (first | (simp; done) | (simp; omega) | omega)))); done)
        clear hK K
        (try simp only [Act.put, List.setIfInBounds_toArray, List.set_cons_zero, List.set_cons_succ])
        refine wpAnyH_done (by kernel_rfl) ?_ _
        rotate_left 1
        refine' AllReadyH.cons (o := _) ?hi17 (fun K hK => ?st17) ?more17
        case hi17 => simp only [List.getElem?_toArray, List.getElem?_cons_succ, List.getElem?_cons_zero]; rfl
        case more17 => exact AllReadyH.nil
        first | (go_simp; go_at_call 51; refine (KT.out _ (T.out.below (by repeat (first | (with_reducible exact Below.refl _ _) | (with_reducible exact Below.refl _ _) | (with_reducible apply Below.drew) | (with_reducible apply below_alloc) | ((with_reducible refine Below.alloc ?_ ?_ _); rotate_left; focus (first | (simp; done) | (simp; omega) | omega)) | ((with_reducible refine Below.setCell ?_ ?_ _); rotate_left; focus (first | (simp; done) | (simp; omega) | omega)))))).mono ?_; rintro e w4 ⟨a4, c4, rfl, o4, hb⟩; have HQ4 := Lib.hid (Blk.step (Blk.drew (Blk.alloc HQ.out _)) hb); have HX4 := Lib.hid (Blk.step (Blk.drew HX0.out) hb); have HW4 : Hid (Below wr.heap.size wr w4) := below_step (by repeat (first | (with_reducible exact Below.refl _ _) | (with_reducible exact Below.refl _ _) | (with_reducible apply Below.drew) | (with_reducible apply below_alloc) | ((with_reducible refine Below.alloc ?_ ?_ _); rotate_left; focus (first | (simp; done) | (simp; omega) | omega)) | ((with_reducible refine Below.setCell ?_ ?_ _); rotate_left; focus (first | (simp; done) | (simp; omega) | omega)))) hb; have O4 := Lib.hid (own_base (B' := w2.heap.size + 1) o4 (by simp; omega)); have hz4 : wr.heap.size < w4.heap.size := HX4.out.lt; have hy4 : w2.heap.size < w4.heap.size := HQ4.out.lt; obtain ⟨m0, m1, mz⟩ := cells2 HQ4.out; clear hb o4; (try dsimp only)) | (refine step_append_own_any rfl _ _ 56 rfl (w2.heap.size + 1) 70 i0 _ 4 48 Try.underlying56 hi hz0 hz1 hz2 rfl (by decide) _ k _ rfl ((ownsRow_keep HROW.out HW4.out).alloc _) (some ⟨w4.heap.size, 0, none⟩) 1 1 (topCells (.slice a4 xe.length c4, ⟨yb, (an : Int), ym, xe⟩)) rfl rfl (fun e => by cases e) (by intro ad had; cases had; exact news_top (.slice a4 xe.length c4) ⟨yb, (an : Int), ym, xe⟩ rfl) (topCells_one _ _ _ ⟨yb, (an : Int), ym, xe⟩) (by unfold maxLen; omega) (by omega) (by simp; omega) ?_; intro v5 w5 hown hgrow; obtain ⟨g5, cap5, rfl⟩ : ∃ g5 cap5, v5 = .slice (some ⟨g5, 0, none⟩) (k + 1) cap5 := (by rcases hown.2 with ⟨_, h0⟩ | ⟨g5, cp, _, e, _⟩; exact absurd h0 (by omega); exact ⟨g5, cp, e⟩); have HQ5 := Lib.hid (Blk.grown (HQ4.out.alloc _) hgrow (fun e => Nat.lt_irrefl _ (HROW.out.lt _ e).1)); have HX5 := Lib.hid (Blk.grown (HX4.out.alloc _) hgrow (fun e => by have := (HROW.out.lt _ e).2; omega)); obtain ⟨m0, m1, mz⟩ := cells2 HQ5.out; have HOWN := Lib.hid hown; have HGR := Lib.hid hgrow; clear hown hgrow)
        refine hK.out _ _ ?keep17 (fun hHeld => ?go17)
        case keep17 => first | (with_reducible exact KT0) | (refine KS.out _ ?_; (repeat (first | (with_reducible exact HX0.out) | ((with_reducible apply Blk.new); focus (first | rfl | (simp; done) | (simp; omega))) | (with_reducible apply Blk.drew) | (with_reducible apply Blk.alloc) | (with_reducible apply Blk.set_) | ((with_reducible apply Blk.far); rotate_left; focus (first | (simp; done) | (simp; omega) | omega)))); done) | (refine KS.out _ ?_; (repeat (first | (with_reducible exact HX4.out) | ((with_reducible apply Blk.new); focus (first | rfl | (simp; done) | (simp; omega))) | (with_reducible apply Blk.drew) | (with_reducible apply Blk.alloc) | (with_reducible apply Blk.set_) | ((with_reducible apply Blk.far); rotate_left; focus (first | (simp; done) | (simp; omega) | omega)))); done) | (refine KS.out _ ?_; (repeat (first | (with_reducible exact HX5.out) | ((with_reducible apply Blk.new); focus (first | rfl | (simp; done) | (simp; omega))) | (with_reducible apply Blk.drew) | (with_reducible apply Blk.alloc) | (with_reducible apply Blk.set_) | ((with_reducible apply Blk.far); rotate_left; focus (first | (simp; done) | (simp; omega) | omega)))); done)
        clear hK K
        (try simp only [Act.put, List.setIfInBounds_toArray, List.set_cons_zero, List.set_cons_succ])
        refine' wpAnyH_take (i := 11) (oi := _) (v := _) ?hi18 (by kernel_rfl) (by kernel_rfl) (by kernel_rfl) ?hq18 (Or.inl ⟨?hw18, ?hy18⟩) (by assumption) ?rest18
        case hi18 => simp only [List.getElem?_toArray, List.getElem?_cons_succ, List.getElem?_cons_zero]; rfl
        case hq18 => exact fun _ _ _ h => h
        case hw18 => rfl
        case hy18 => intro wh hSw; (try dsimp only at hSw); go_simp; (try with_reducible rfl)
        (try simp only [Act.put, List.setIfInBounds_toArray, List.set_cons_zero, List.set_cons_succ])
        refine wpAnyH_ready (rs := [1, 12]) (by kernel_rfl) (by simp) ?_
        refine' AllReadyH.cons (o := _) ?hi19 (fun K hK => ?st19) ?more19
        case hi19 => simp only [List.getElem?_toArray, List.getElem?_cons_succ, List.getElem?_cons_zero]; rfl
        go_simp
        refine hK.out _ _ ?keep19 (fun hHeld => ?go19)
        case keep19 => first | (with_reducible exact KT0) | (refine KS.out _ ?_; (repeat (first | (with_reducible exact HX0.out) | ((with_reducible apply Blk.new); focus (first | rfl | (simp; done) | (simp; omega))) | (with_reducible apply Blk.drew) | (with_reducible apply Blk.alloc) | (with_reducible apply Blk.set_) | ((with_reducible apply Blk.far); rotate_left; focus (first | (simp; done) | (simp; omega) | omega)))); done) | (refine KS.out _ ?_; (repeat (first | (with_reducible exact HX4.out) | ((with_reducible apply Blk.new); focus (first | rfl | (simp; done) | (simp; omega))) | (with_reducible apply Blk.drew) | (with_reducible apply Blk.alloc) | (with_reducible apply Blk.set_) | ((with_reducible apply Blk.far); rotate_left; focus (first | (simp; done) | (simp; omega) | omega)))); done) | (refine KS.out _ ?_; (repeat (first | (with_reducible exact HX5.out) | ((with_reducible apply Blk.new); focus (first | rfl | (simp; done) | (simp; omega))) | (with_reducible apply Blk.drew) | (with_reducible apply Blk.alloc) | (with_reducible apply Blk.set_) | ((with_reducible apply Blk.far); rotate_left; focus (first | (simp; done) | (simp; omega) | omega)))); done)
        clear hK K
        (try simp only [Act.put, List.setIfInBounds_toArray, List.set_cons_zero, List.set_cons_succ])
        refine wpAnyH_ready (rs := [12]) (by kernel_rfl) (by simp) ?_
        refine' AllReadyH.cons (o := _) ?hi20 (fun K hK => ?st20) ?more20
        case hi20 => simp only [List.getElem?_toArray, List.getElem?_cons_succ, List.getElem?_cons_zero]; rfl
        case more20 => exact AllReadyH.nil
        go_simp
        refine hK.out _ _ ?keep20 (fun hHeld => ?go20)
        case keep20 => first | (with_reducible exact KT0) | (refine KS.out _ ?_; (repeat (first | (with_reducible exact HX0.out) | ((with_reducible apply Blk.new); focus (first | rfl | (simp; done) | (simp; omega))) | (with_reducible apply Blk.drew) | (with_reducible apply Blk.alloc) | (with_reducible apply Blk.set_) | ((with_reducible apply Blk.far); rotate_left; focus (first | (simp; done) | (simp; omega) | omega)))); done) | (refine KS.out _ ?_; (repeat (first | (with_reducible exact HX4.out) | ((with_reducible apply Blk.new); focus (first | rfl | (simp; done) | (simp; omega))) | (with_reducible apply Blk.drew) | (with_reducible apply Blk.alloc) | (with_reducible apply Blk.set_) | ((with_reducible apply Blk.far); rotate_left; focus (first | (simp; done) | (simp; omega) | omega)))); done) | (refine KS.out _ ?_; (repeat (first | (with_reducible exact HX5.out) | ((with_reducible apply Blk.new); focus (first | rfl | (simp; done) | (simp; omega))) | (with_reducible apply Blk.drew) | (with_reducible apply Blk.alloc) | (with_reducible apply Blk.set_) | ((with_reducible apply Blk.far); rotate_left; focus (first | (simp; done) | (simp; omega) | omega)))); done)
        clear hK K
        (try simp only [Act.put, List.setIfInBounds_toArray, List.set_cons_zero, List.set_cons_succ])
        refine wpAnyH_ready (rs := [13]) (by kernel_rfl) (by simp) ?_
        refine' AllReadyH.cons (o := _) ?hi21 (fun K hK => ?st21) ?more21
        case hi21 => simp only [List.getElem?_toArray, List.getElem?_cons_succ, List.getElem?_cons_zero]; rfl
        case more21 => exact AllReadyH.nil
        first | (go_simp; go_at_call 51; refine (KT.out _ (T.out.below (by repeat (first | (with_reducible exact Below.refl _ _) | (with_reducible exact Below.refl _ _) | (with_reducible apply Below.drew) | (with_reducible apply below_alloc) | ((with_reducible refine Below.alloc ?_ ?_ _); rotate_left; focus (first | (simp; done) | (simp; omega) | omega)) | ((with_reducible refine Below.setCell ?_ ?_ _); rotate_left; focus (first | (simp; done) | (simp; omega) | omega)))))).mono ?_; rintro e w4 ⟨a4, c4, rfl, o4, hb⟩; have HQ4 := Lib.hid (Blk.step (Blk.drew (Blk.alloc HQ.out _)) hb); have HX4 := Lib.hid (Blk.step (Blk.drew HX0.out) hb); have HW4 : Hid (Below wr.heap.size wr w4) := below_step (by repeat (first | (with_reducible exact Below.refl _ _) | (with_reducible exact Below.refl _ _) | (with_reducible apply Below.drew) | (with_reducible apply below_alloc) | ((with_reducible refine Below.alloc ?_ ?_ _); rotate_left; focus (first | (simp; done) | (simp; omega) | omega)) | ((with_reducible refine Below.setCell ?_ ?_ _); rotate_left; focus (first | (simp; done) | (simp; omega) | omega)))) hb; have O4 := Lib.hid (own_base (B' := w2.heap.size + 1) o4 (by simp; omega)); have hz4 : wr.heap.size < w4.heap.size := HX4.out.lt; have hy4 : w2.heap.size < w4.heap.size := HQ4.out.lt; obtain ⟨m0, m1, mz⟩ := cells2 HQ4.out; clear hb o4; (try dsimp only)) | (refine step_append_own_any rfl _ _ 56 rfl (w2.heap.size + 1) 70 i0 _ 4 48 Try.underlying56 hi hz0 hz1 hz2 rfl (by decide) _ k _ rfl ((ownsRow_keep HROW.out HW4.out).alloc _) (some ⟨w4.heap.size, 0, none⟩) 1 1 (topCells (.slice a4 xe.length c4, ⟨yb, (an : Int), ym, xe⟩)) rfl rfl (fun e => by cases e) (by intro ad had; cases had; exact news_top (.slice a4 xe.length c4) ⟨yb, (an : Int), ym, xe⟩ rfl) (topCells_one _ _ _ ⟨yb, (an : Int), ym, xe⟩) (by unfold maxLen; omega) (by omega) (by simp; omega) ?_; intro v5 w5 hown hgrow; obtain ⟨g5, cap5, rfl⟩ : ∃ g5 cap5, v5 = .slice (some ⟨g5, 0, none⟩) (k + 1) cap5 := (by rcases hown.2 with ⟨_, h0⟩ | ⟨g5, cp, _, e, _⟩; exact absurd h0 (by omega); exact ⟨g5, cp, e⟩); have HQ5 := Lib.hid (Blk.grown (HQ4.out.alloc _) hgrow (fun e => Nat.lt_irrefl _ (HROW.out.lt _ e).1)); have HX5 := Lib.hid (Blk.grown (HX4.out.alloc _) hgrow (fun e => by have := (HROW.out.lt _ e).2; omega)); obtain ⟨m0, m1, mz⟩ := cells2 HQ5.out; have HOWN := Lib.hid hown; have HGR := Lib.hid hgrow; clear hown hgrow)
        refine hK.out _ _ ?keep21 (fun hHeld => ?go21)
        case keep21 => first | (with_reducible exact KT0) | (refine KS.out _ ?_; (repeat (first | (with_reducible exact HX0.out) | ((with_reducible apply Blk.new); focus (first | rfl | (simp; done) | (simp; omega))) | (with_reducible apply Blk.drew) | (with_reducible apply Blk.alloc) | (with_reducible apply Blk.set_) | ((with_reducible apply Blk.far); rotate_left; focus (first | (simp; done) | (simp; omega) | omega)))); done) | (refine KS.out _ ?_; (repeat (first | (with_reducible exact HX4.out) | ((with_reducible apply Blk.new); focus (first | rfl | (simp; done) | (simp; omega))) | (with_reducible apply Blk.drew) | (with_reducible apply Blk.alloc) | (with_reducible apply Blk.set_) | ((with_reducible apply Blk.far); rotate_left; focus (first | (simp; done) | (simp; omega) | omega)))); done) | (refine KS.out _ ?_; (repeat (first | (with_reducible exact HX5.out) | ((with_reducible apply Blk.new); focus (first | rfl | (simp; done) | (simp; omega))) | (with_reducible apply Blk.drew) | (with_reducible apply Blk.alloc) | (with_reducible apply Blk.set_) | ((with_reducible apply Blk.far); rotate_left; focus (first | (simp; done) | (simp; omega) | omega)))); done)
        clear hK K
        (try simp only [Act.put, List.setIfInBounds_toArray, List.set_cons_zero, List.set_cons_succ])
        refine' wpAnyH_take (i := 14) (oi := _) (v := _) ?hi22 (by kernel_rfl) (by kernel_rfl) (by kernel_rfl) ?hq22 (Or.inl ⟨?hw22, ?hy22⟩) (by assumption) ?rest22
        case hi22 => simp only [List.getElem?_toArray, List.getElem?_cons_succ, List.getElem?_cons_zero]; rfl
        case hq22 => exact fun _ _ _ h => h
        case hw22 => rfl
        case hy22 => intro wh hSw; (try dsimp only at hSw); go_simp; (try with_reducible rfl)
        (try simp only [Act.put, List.setIfInBounds_toArray, List.set_cons_zero, List.set_cons_succ])
        refine wpAnyH_ready (rs := [15]) (by kernel_rfl) (by simp) ?_
        refine' AllReadyH.cons (o := _) ?hi23 (fun K hK => ?st23) ?more23
        case hi23 => simp only [List.getElem?_toArray, List.getElem?_cons_succ, List.getElem?_cons_zero]; rfl
        case more23 => exact AllReadyH.nil
        go_simp
        refine hK.out _ _ ?keep23 (fun hHeld => ?go23)
        case keep23 => first | (with_reducible exact KT0) | (refine KS.out _ ?_; (repeat (first | (with_reducible exact HX0.out) | ((with_reducible apply Blk.new); focus (first | rfl | (simp; done) | (simp; omega))) | (with_reducible apply Blk.drew) | (with_reducible apply Blk.alloc) | (with_reducible apply Blk.set_) | ((with_reducible apply Blk.far); rotate_left; focus (first | (simp; done) | (simp; omega) | omega)))); done) | (refine KS.out _ ?_; (repeat (first | (with_reducible exact HX4.out) | ((with_reducible apply Blk.new); focus (first | rfl | (simp; done) | (simp; omega))) | (with_reducible apply Blk.drew) | (with_reducible apply Blk.alloc) | (with_reducible apply Blk.set_) | ((with_reducible apply Blk.far); rotate_left; focus (first | (simp; done) | (simp; omega) | omega)))); done) | (refine KS.out _ ?_; (repeat (first | (with_reducible exact HX5.out) | ((with_reducible apply Blk.new); focus (first | rfl | (simp; done) | (simp; omega))) | (with_reducible apply Blk.drew) | (with_reducible apply Blk.alloc) | (with_reducible apply Blk.set_) | ((with_reducible apply Blk.far); rotate_left; focus (first | (simp; done) | (simp; omega) | omega)))); done)
        clear hK K
        (try simp only [Act.put, List.setIfInBounds_toArray, List.set_cons_zero, List.set_cons_succ])
        refine wpAnyH_done (by kernel_rfl) ?_ _
        rotate_left 1
        refine' AllReadyH.cons (o := _) ?hi24 (fun K hK => ?st24) ?more24
        case hi24 => simp only [List.getElem?_toArray, List.getElem?_cons_succ, List.getElem?_cons_zero]; rfl
        case more24 => exact AllReadyH.nil
        go_simp
        refine hK.out _ _ ?keep24 (fun hHeld => ?go24)
        case keep24 => first | (with_reducible exact KT0) | (refine KS.out _ ?_; (repeat (first | (with_reducible exact HX0.out) | ((with_reducible apply Blk.new); focus (first | rfl | (simp; done) | (simp; omega))) | (with_reducible apply Blk.drew) | (with_reducible apply Blk.alloc) | (with_reducible apply Blk.set_) | ((with_reducible apply Blk.far); rotate_left; focus (first | (simp; done) | (simp; omega) | omega)))); done) | (refine KS.out _ ?_; (repeat (first | (with_reducible exact HX4.out) | ((with_reducible apply Blk.new); focus (first | rfl | (simp; done) | (simp; omega))) | (with_reducible apply Blk.drew) | (with_reducible apply Blk.alloc) | (with_reducible apply Blk.set_) | ((with_reducible apply Blk.far); rotate_left; focus (first | (simp; done) | (simp; omega) | omega)))); done) | (refine KS.out _ ?_; (repeat (first | (with_reducible exact HX5.out) | ((with_reducible apply Blk.new); focus (first | rfl | (simp; done) | (simp; omega))) | (with_reducible apply Blk.drew) | (with_reducible apply Blk.alloc) | (with_reducible apply Blk.set_) | ((with_reducible apply Blk.far); rotate_left; focus (first | (simp; done) | (simp; omega) | omega)))); done)
        clear hK K
        (try simp only [Act.put, List.setIfInBounds_toArray, List.set_cons_zero, List.set_cons_succ])
        refine wpAnyH_ready (rs := [1]) (by kernel_rfl) (by simp) ?_
        refine' AllReadyH.cons (o := _) ?hi25 (fun K hK => ?st25) ?more25
        case hi25 => simp only [List.getElem?_toArray, List.getElem?_cons_succ, List.getElem?_cons_zero]; rfl
        case more25 => exact AllReadyH.nil
        go_simp
        refine hK.out _ _ ?keep25 (fun hHeld => ?go25)
        case keep25 => first | (with_reducible exact KT0) | (refine KS.out _ ?_; (repeat (first | (with_reducible exact HX0.out) | ((with_reducible apply Blk.new); focus (first | rfl | (simp; done) | (simp; omega))) | (with_reducible apply Blk.drew) | (with_reducible apply Blk.alloc) | (with_reducible apply Blk.set_) | ((with_reducible apply Blk.far); rotate_left; focus (first | (simp; done) | (simp; omega) | omega)))); done) | (refine KS.out _ ?_; (repeat (first | (with_reducible exact HX4.out) | ((with_reducible apply Blk.new); focus (first | rfl | (simp; done) | (simp; omega))) | (with_reducible apply Blk.drew) | (with_reducible apply Blk.alloc) | (with_reducible apply Blk.set_) | ((with_reducible apply Blk.far); rotate_left; focus (first | (simp; done) | (simp; omega) | omega)))); done) | (refine KS.out _ ?_; (repeat (first | (with_reducible exact HX5.out) | ((with_reducible apply Blk.new); focus (first | rfl | (simp; done) | (simp; omega))) | (with_reducible apply Blk.drew) | (with_reducible apply Blk.alloc) | (with_reducible apply Blk.set_) | ((with_reducible apply Blk.far); rotate_left; focus (first | (simp; done) | (simp; omega) | omega)))); done)
        clear hK K
        (try simp only [Act.put, List.setIfInBounds_toArray, List.set_cons_zero, List.set_cons_succ])
        refine wpAnyH_ready (rs := [13]) (by kernel_rfl) (by simp) ?_
        refine' AllReadyH.cons (o := _) ?hi26 (fun K hK => ?st26) ?more26
        case hi26 => simp only [List.getElem?_toArray, List.getElem?_cons_succ, List.getElem?_cons_zero]; rfl
        case more26 => exact AllReadyH.nil
        first | (go_simp; go_at_call 51; refine (KT.out _ (T.out.below (by repeat (first | (with_reducible exact Below.refl _ _) | (with_reducible exact Below.refl _ _) | (with_reducible apply Below.drew) | (with_reducible apply below_alloc) | ((with_reducible refine Below.alloc ?_ ?_ _); rotate_left; focus (first | (simp; done) | (simp; omega) | omega)) | ((with_reducible refine Below.setCell ?_ ?_ _); rotate_left; focus (first | (simp; done) | (simp; omega) | omega)))))).mono ?_; rintro e w4 ⟨a4, c4, rfl, o4, hb⟩; have HQ4 := Lib.hid (Blk.step (Blk.drew (Blk.alloc HQ.out _)) hb); have HX4 := Lib.hid (Blk.step (Blk.drew HX0.out) hb); have HW4 : Hid (Below wr.heap.size wr w4) := below_step (by repeat (first | (with_reducible exact Below.refl _ _) | (with_reducible exact Below.refl _ _) | (with_reducible apply Below.drew) | (with_reducible apply below_alloc) | ((with_reducible refine Below.alloc ?_ ?_ _); rotate_left; focus (first | (simp; done) | (simp; omega) | omega)) | ((with_reducible refine Below.setCell ?_ ?_ _); rotate_left; focus (first | (simp; done) | (simp; omega) | omega)))) hb; have O4 := Lib.hid (own_base (B' := w2.heap.size + 1) o4 (by simp; omega)); have hz4 : wr.heap.size < w4.heap.size := HX4.out.lt; have hy4 : w2.heap.size < w4.heap.size := HQ4.out.lt; obtain ⟨m0, m1, mz⟩ := cells2 HQ4.out; clear hb o4; (try dsimp only)) | (refine step_append_own_any rfl _ _ 56 rfl (w2.heap.size + 1) 70 i0 _ 4 48 Try.underlying56 hi hz0 hz1 hz2 rfl (by decide) _ k _ rfl ((ownsRow_keep HROW.out HW4.out).alloc _) (some ⟨w4.heap.size, 0, none⟩) 1 1 (topCells (.slice a4 xe.length c4, ⟨yb, (an : Int), ym, xe⟩)) rfl rfl (fun e => by cases e) (by intro ad had; cases had; exact news_top (.slice a4 xe.length c4) ⟨yb, (an : Int), ym, xe⟩ rfl) (topCells_one _ _ _ ⟨yb, (an : Int), ym, xe⟩) (by unfold maxLen; omega) (by omega) (by simp; omega) ?_; intro v5 w5 hown hgrow; obtain ⟨g5, cap5, rfl⟩ : ∃ g5 cap5, v5 = .slice (some ⟨g5, 0, none⟩) (k + 1) cap5 := (by rcases hown.2 with ⟨_, h0⟩ | ⟨g5, cp, _, e, _⟩; exact absurd h0 (by omega); exact ⟨g5, cp, e⟩); have HQ5 := Lib.hid (Blk.grown (HQ4.out.alloc _) hgrow (fun e => Nat.lt_irrefl _ (HROW.out.lt _ e).1)); have HX5 := Lib.hid (Blk.grown (HX4.out.alloc _) hgrow (fun e => by have := (HROW.out.lt _ e).2; omega)); obtain ⟨m0, m1, mz⟩ := cells2 HQ5.out; have HOWN := Lib.hid hown; have HGR := Lib.hid hgrow; clear hown hgrow)
        refine hK.out _ _ ?keep26 (fun hHeld => ?go26)
        case keep26 => first | (with_reducible exact KT0) | (refine KS.out _ ?_; (repeat (first | (with_reducible exact HX0.out) | ((with_reducible apply Blk.new); focus (first | rfl | (simp; done) | (simp; omega))) | (with_reducible apply Blk.drew) | (with_reducible apply Blk.alloc) | (with_reducible apply Blk.set_) | ((with_reducible apply Blk.far); rotate_left; focus (first | (simp; done) | (simp; omega) | omega)))); done) | (refine KS.out _ ?_; (repeat (first | (with_reducible exact HX4.out) | ((with_reducible apply Blk.new); focus (first | rfl | (simp; done) | (simp; omega))) | (with_reducible apply Blk.drew) | (with_reducible apply Blk.alloc) | (with_reducible apply Blk.set_) | ((with_reducible apply Blk.far); rotate_left; focus (first | (simp; done) | (simp; omega) | omega)))); done) | (refine KS.out _ ?_; (repeat (first | (with_reducible exact HX5.out) | ((with_reducible apply Blk.new); focus (first | rfl | (simp; done) | (simp; omega))) | (with_reducible apply Blk.drew) | (with_reducible apply Blk.alloc) | (with_reducible apply Blk.set_) | ((with_reducible apply Blk.far); rotate_left; focus (first | (simp; done) | (simp; omega) | omega)))); done)
        clear hK K
        (try simp only [Act.put, List.setIfInBounds_toArray, List.set_cons_zero, List.set_cons_succ])
        refine' wpAnyH_take (i := 14) (oi := _) (v := _) ?hi27 (by kernel_rfl) (by kernel_rfl) (by kernel_rfl) ?hq27 (Or.inl ⟨?hw27, ?hy27⟩) (by assumption) ?rest27
        case hi27 => simp only [List.getElem?_toArray, List.getElem?_cons_succ, List.getElem?_cons_zero]; rfl
        case hq27 => exact fun _ _ _ h => h
        case hw27 => rfl
        case hy27 => intro wh hSw; (try dsimp only at hSw); go_simp; (try with_reducible rfl)
        (try simp only [Act.put, List.setIfInBounds_toArray, List.set_cons_zero, List.set_cons_succ])
        refine wpAnyH_ready (rs := [15]) (by kernel_rfl) (by simp) ?_
        refine' AllReadyH.cons (o := _) ?hi28 (fun K hK => ?st28) ?more28
        case hi28 => simp only [List.getElem?_toArray, List.getElem?_cons_succ, List.getElem?_cons_zero]; rfl
        case more28 => exact AllReadyH.nil
        go_simp
        refine hK.out _ _ ?keep28 (fun hHeld => ?go28)
        case keep28 => first | (with_reducible exact KT0) | (refine KS.out _ ?_; (repeat (first | (with_reducible exact HX0.out) | ((with_reducible apply Blk.new); focus (first | rfl | (simp; done) | (simp; omega))) | (with_reducible apply Blk.drew) | (with_reducible apply Blk.alloc) | (with_reducible apply Blk.set_) | ((with_reducible apply Blk.far); rotate_left; focus (first | (simp; done) | (simp; omega) | omega)))); done) | (refine KS.out _ ?_; (repeat (first | (with_reducible exact HX4.out) | ((with_reducible apply Blk.new); focus (first | rfl | (simp; done) | (simp; omega))) | (with_reducible apply Blk.drew) | (with_reducible apply Blk.alloc) | (with_reducible apply Blk.set_) | ((with_reducible apply Blk.far); rotate_left; focus (first | (simp; done) | (simp; omega) | omega)))); done) | (refine KS.out _ ?_; (repeat (first | (with_reducible exact HX5.out) | ((with_reducible apply Blk.new); focus (first | rfl | (simp; done) | (simp; omega))) | (with_reducible apply Blk.drew) | (with_reducible apply Blk.alloc) | (with_reducible apply Blk.set_) | ((with_reducible apply Blk.far); rotate_left; focus (first | (simp; done) | (simp; omega) | omega)))); done)
        clear hK K
        (try simp only [Act.put, List.setIfInBounds_toArray, List.set_cons_zero, List.set_cons_succ])
        refine wpAnyH_done (by kernel_rfl) ?_ _
        all_goals
          have OT5 : Hid (OwnT w5 (w2.heap.size + 1) (.slice (some ⟨g5, 0, none⟩) (k + 1) cap5) ((m.tops.map topM).take (k + 1))) := by
            rw [HTX.out]
            exact OwnT.snoc2 HPL.out ((ownsRow_keep HROW.out HW4.out).alloc _) (fun p hp => own_below (own_below (HENT.out p hp) HW4.out) ((Below.refl _ _).alloc (Nat.le_refl _) _)) (own_below O4.out ((Below.refl _ _).alloc (Nat.le_refl _) _)) HGR.out HOWN.out HLK.out.symm
          have OC5 := Lib.hid (OwnC.grown (OwnC.alloc (show OwnC w4 _ _ _ from OC.out.keep HW4.out) _) HGR.out ((ownsRow_keep HROW.out HW4.out).alloc _) rfl (by decide) (by decide))
          have HB5 : Hid (Below w.heap.size w w5) := Below.grown ((Below.step HB.out HW4.out (by omega)).alloc (by omega) _) HGR.out (by simp; omega) (fun j hj => by have := (HROW.out.lt j hj).1; omega)
          have HP5 := Lib.hid (Blk.grown ((HP.out.step HW4.out).alloc _) HGR.out (fun e => by have := (HROW.out.lt _ e).1; omega))
          have HR5 := Lib.hid (Blk.grown ((HR.out.step HW4.out).alloc _) HGR.out (fun e => by have := (HROW.out.lt _ e).1; omega))
          have hl5 : w2.heap.size < w5.heap.size := HQ5.out.lt
          clear HOWN HGR
          go_wp2_with fail
          go_roundg (4 - (k + 1))
          case measure => omega
          case rel =>
           refine ⟨k + 1, some ⟨g5, 0, none⟩, cap5, by omega, rfl, by go_num, ?_, ?_, ?_, ?_, ?_, ?_⟩
           · show OwnT _ _ _ _
             exact OT5.out.far (by omega)
           · exact Lib.hid (OwnC.blk OC5.out HQ5.out (by decide) (by decide))
           · show Below _ _ _
             exact HB5.out.setCell (by show w.heap.size ≤ w2.heap.size; omega) _
           · show Blk _ _ _ _
             exact HP5.out.far (by omega) _
           · show Blk _ _ _ _
             exact HR5.out.far (by omega) _
           · show Blk _ _ _ _
             exact HQ5.out.set_ 0 _
      · have hlt' : ¬ (k : Int) < 4 := by omega
        obtain ⟨r0, r1, rz⟩ := cells2 HR.out
        have rl := HR.out.lt
        go_wp2_with fail
        have hk4 : k = 4 := by omega
        have e : (m.tops.map topM).take k = m.tops.map topM := by rw [hk4, HN.out, ← List.length_map (f := topM)]; exact List.take_length
        have OT6 := OT.out
        rw [e] at OT6
        obtain ⟨t0, t1, -⟩ := cells2 ((HR.out.set_ 0 (.slice al k capl)).set_ 1 (.slice ac nac cac))
        refine bodyPost_ret (v := .tuple #[.agg #[.slice al k capl, .slice ac nac cac], .int .i64 0]) (by simp [results, Try.results22, go_sem, t0, t1]) rfl ⟨_, _, rfl, ⟨_, _, rfl, ?_, ?_⟩, ?_⟩
        · exact OwnT.le ((OT6.far (by omega)).far (by omega)) (by omega)
        · exact OwnRows.le (OwnC.far (OwnC.far OC.out (by omega)) (by omega)) (by omega)
        · exact (HB.out.setCell (by simp) _).setCell (by simp) _
  · rw [streamE, if_neg hm] at hu
    cases hu
    have HC := Lib.hid (show false = decide (mayM m) by simp [hm])
    clear h hm hT hR
    go_enter Try.func22, Try.ntmps22
    go_wp2_with fail
    refine Calls.mono (refMdlMay_any ?_ HC.out) ?_
    · exact S.out.below (by repeat (first | (with_reducible exact Below.refl _ _) | (with_reducible exact Below.refl _ _) | (with_reducible apply Below.drew) | (with_reducible apply below_alloc) | ((with_reducible refine Below.alloc ?_ ?_ _); rotate_left; focus (first | (simp; done) | (simp; omega) | omega)) | ((with_reducible refine Below.setCell ?_ ?_ _); rotate_left; focus (first | (simp; done) | (simp; omega) | omega))))
    rintro e w1 ⟨rfl, hb⟩
    have HB : Hid (Below w.heap.size w _) := below_step (by repeat (first | (with_reducible exact Below.refl _ _) | (with_reducible exact Below.refl _ _) | (with_reducible apply Below.drew) | (with_reducible apply below_alloc) | ((with_reducible refine Below.alloc ?_ ?_ _); rotate_left; focus (first | (simp; done) | (simp; omega) | omega)) | ((with_reducible refine Below.setCell ?_ ?_ _); rotate_left; focus (first | (simp; done) | (simp; omega) | omega)))) hb
    have R : Blk _ (w.heap.size + 1) _ _ := Blk.step (by repeat (first | ((with_reducible apply Blk.new); focus (first | rfl | (simp; done) | (simp; omega))) | (with_reducible apply Blk.drew) | (with_reducible apply Blk.alloc) | (with_reducible apply Blk.set_) | ((with_reducible apply Blk.far); rotate_left; focus (first | (simp; done) | (simp; omega) | omega)))) hb
    obtain ⟨r0, r1, rz⟩ := cells2 R
    have rl := Blk.lt R
    have HR := Lib.hid R
    clear R
    clear hb
    go_wp2_with fail
    obtain ⟨t0, t1, -⟩ := cells2 ((HR.out.set_ 0 (.slice none 0 0)).set_ 1 (.slice none 0 0))
    refine bodyPost_ret (v := .tuple #[.agg #[.slice none 0 0, .slice none 0 0], .int .i64 8]) (by simp [results, Try.results22, go_sem, t0, t1]) rfl ⟨_, _, rfl, OwnS.zero _ _, ?_⟩
    repeat (first | (with_reducible exact HB.out) | (with_reducible exact Below.refl _ _) | (with_reducible apply Below.drew) | (with_reducible apply below_alloc) | ((with_reducible refine Below.alloc ?_ ?_ _); rotate_left; focus (first | (simp; done) | (simp; omega) | omega)) | ((with_reducible refine Below.setCell ?_ ?_ _); rotate_left; focus (first | (simp; done) | (simp; omega) | omega)))
end Go.Proofs.Ytblgmjbajnkcdab
