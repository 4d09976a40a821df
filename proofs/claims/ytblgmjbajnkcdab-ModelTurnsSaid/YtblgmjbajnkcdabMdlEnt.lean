/-
  model.entries; the document's Kept and Entries: where offsets are places.
-/
import Derived.Test.YtblgmjbajnkcdabMdlKept
import Derived.OwnWalk
namespace Go.Proofs.Ytblgmjbajnkcdab
open Go.RowKit

theorem cells3 {w : World} {g : Nat} {t : TypeId} {a b c : Value} (h : Blk w g t [a, b, c]) : w.cell? ⟨g, 0, none⟩ = some a ∧ w.cell? ⟨g, 1, none⟩ = some b ∧ w.cell? ⟨g, 2, none⟩ = some c ∧ ∀ o, w.frozen? ⟨g, o, none⟩ = false := ⟨h.cell 0, h.cell 1, h.cell 2, h.free⟩

set_option maxHeartbeats 4000000 in
set_option maxRecDepth 100000 in
theorem entries_any {v : Value} {p : Pl} {w : World} (h : PlR w v p) (hs : shapedP p) :
    Calls Try.prog 50 #[v] w (CloneEnd (entP p) w) := by
  obtain ⟨i0, hi, hz0, hz1, hz2⟩ := info_parts info_ent
  have PP := Lib.hid h
  have HS := Lib.hid hs
  obtain ⟨a, cap, rfl, hsl⟩ := h
  have h2 := hs.2.1
  obtain ⟨⟨_, hcap⟩, ⟨hmx, _⟩, hd⟩ := hsl.ents
  have HD := Lib.hid hd
  obtain ⟨n, hn⟩ : ∃ n, n = p.all.length := ⟨_, rfl⟩
  rw [← hn] at HD PP hcap h2 ⊢
  have HN := Lib.hid hn
  unfold maxLen at hmx
  have hl0 : (n : Int) ≤ 600 := by omega
  clear hs hsl hd hn
  go_enter Try.func50, Try.ntmps50
  go_wp2_with fail
  go_loopg [3, 9] n (fun g o i wr => ∃ k : Nat, k ≤ n ∧ g = n - k ∧ i = .int .i64 (k : Int) ∧ Hid (OwnE wr (w.heap.size + 1) o (preP p k)) ∧ Hid (Below w.heap.size w wr) ∧ Hid (Blk wr w.heap.size 84 [.slice a n cap, .int .i64 p.base, .int .i64 p.mark]))
  case atStart => exact ⟨0, Nat.zero_le _, rfl, rfl, World.ownsRow_nil _ _ _ _, below_alloc (Below.refl _ _), Blk.new rfl⟩
  case round =>
    obtain ⟨k, hk, rfl, rfl, HO, HB, HP⟩ := hrel
    obtain ⟨p0, p1, p2, pz⟩ := cells3 HP.out
    have pl := HP.out.lt
    by_cases hlt : k < n
    · have hk0 : (0 : Int) ≤ (k : Int) := by omega
      have hk1 : (k : Int) < (n : Int) := by omega
      have hkl : k < p.all.length := by rw [← HN.out]; exact hlt
      obtain ⟨bb, off, ha, h1⟩ := HD.out (by omega)
      subst ha
      have cc := h1 k hkl
      clear h1
      obtain ⟨x, hx⟩ : ∃ x, x = p.all.getD k default := ⟨_, rfl⟩
      rw [← hx] at cc
      have c0 := keep HB.out cc.1.1.1
      have c1 := keep HB.out cc.1.1.2
      have c2 := keep HB.out cc.1.2
      have c3 := keep HB.out cc.2
      have hgb : bb < wr.heap.size := World.block_lt_of_cell? wr _ c0
      have HLEN := Lib.hid (show (preP p k).length ≤ 600 by have := preP_len p k; omega)
      have KK : Hid (∀ (W : World) {v : Value}, PlR W v p → Calls Try.prog 44 #[v, .agg #[.int .i64 x.off, .int .i64 x.id, .string x.key, .string x.body]] W fun e w' => e = .returned (.bool (keptI p k)) ∧ Below W.heap.size W w') := Lib.hid (fun W v hW => by rw [hx]; exact kept_any k hW HS.out hkl)
      obtain ⟨q, hq⟩ : ∃ q, q = keptI p k := ⟨_, rfl⟩
      have HF := Lib.hid (show preP p (k + 1) = preP p k ++ (if q = true then [x] else []) by rw [preP, hq, hx])
      rw [← hq] at KK
      have HCC := Lib.hid cc
      clear hx cc hkl hq
      go_wp2_with fail
      refine Calls.mono (KK.out _ ?_) ?_
      · exact PP.out.below (by repeat (first | (with_reducible exact HB.out) | (with_reducible exact Below.refl _ _) | (with_reducible apply Below.drew) | (with_reducible apply below_alloc) | ((with_reducible refine Below.alloc ?_ ?_ _); rotate_left; focus (first | (simp; done) | (simp; omega) | omega)) | ((with_reducible refine Below.setCell ?_ ?_ _); rotate_left; focus (first | (simp; done) | (simp; omega) | omega))))
      rintro e w1 ⟨rfl, hb⟩
      have HB1 : Hid (Below w.heap.size w w1) := below_step (by repeat (first | (with_reducible exact HB.out) | (with_reducible exact Below.refl _ _) | (with_reducible apply Below.drew) | (with_reducible apply below_alloc) | ((with_reducible refine Below.alloc ?_ ?_ _); rotate_left; focus (first | (simp; done) | (simp; omega) | omega)) | ((with_reducible refine Below.setCell ?_ ?_ _); rotate_left; focus (first | (simp; done) | (simp; omega) | omega)))) hb
      have HXB : Hid (Blk w1 wr.heap.size 29 [.int .i64 x.off, .int .i64 x.id, .string x.key, .string x.body]) := Blk.step (by repeat (first | (with_reducible exact Blk.new rfl) | ((with_reducible apply Blk.new); focus (first | rfl | (simp; done) | (simp; omega))) | (with_reducible apply Blk.drew) | (with_reducible apply Blk.alloc) | (with_reducible apply Blk.set_) | ((with_reducible apply Blk.far); rotate_left; focus (first | (simp; done) | (simp; omega) | omega)))) hb
      replace HP : Hid (Blk w1 w.heap.size 84 _) := Blk.step (by repeat (first | (with_reducible exact HP.out) | ((with_reducible apply Blk.new); focus (first | rfl | (simp; done) | (simp; omega))) | (with_reducible apply Blk.drew) | (with_reducible apply Blk.alloc) | (with_reducible apply Blk.set_) | ((with_reducible apply Blk.far); rotate_left; focus (first | (simp; done) | (simp; omega) | omega)))) hb
      have HO1 : Hid (OwnE w1 (w.heap.size + 1) _ (preP p k)) := own_step (by repeat (first | (with_reducible exact HO.out) | (with_reducible apply own_drew) | (with_reducible apply own_alloc) | ((with_reducible apply own_set); rotate_left; focus (first | (simp; done) | (simp; omega) | omega)))) hb
      clear hb p0 p1 p2 pz pl c0 c1 c2 c3
      obtain ⟨p0, p1, p2, pz⟩ := cells3 HP.out
      have pl := HP.out.lt
      obtain ⟨x0, x1, x2, x3, xz⟩ := cells4 HXB.out
      have xl := HXB.out.lt
      cases q
      · have HF' : Hid (preP p (k + 1) = preP p k) := Lib.hid (by rw [HF.out]; simp)
        clear HF
        go_wp2_with fail
        go_roundg (n - (k + 1))
        case measure => omega
        case rel =>
          refine ⟨k + 1, by omega, rfl, by go_num, ?_, HB1, HP⟩
          show OwnE _ _ _ (preP p (k + 1))
          rw [HF'.out]
          exact HO1.out
      · have HF' : Hid (preP p (k + 1) = preP p k ++ [x]) := Lib.hid (by rw [HF.out]; simp)
        clear HF
        have HF := HF'
        go_wp2_with (at_builtin; go_must (refine wpList_append_own _ rfl _ _ 68 rfl (w.heap.size + 1) 29 i0 _ 4 48 Try.underlying68 hi hz0 hz1 hz2 rfl (by decide) _ _ _ rfl (HO1.out.alloc _) ⟨w1.heap.size, 0, none⟩ 1 1 (entCells x) rfl rfl ?_ (by intro v hv; simp [entCells] at hv; rcases hv with rfl | rfl | rfl | rfl <;> rfl) (by have := HLEN.out; unfold maxLen; omega) (by have := HLEN.out; omega) (by have := HB1.out.size; have := pl; simp; omega) ?_))
        · intro j v hv
          match j, hv with
          | 0, hv => simp [entCells] at hv; subst hv; simp [Addr.add]
          | 1, hv => simp [entCells] at hv; subst hv; simp [Addr.add]
          | 2, hv => simp [entCells] at hv; subst hv; simp [Addr.add]
          | 3, hv => simp [entCells] at hv; subst hv; simp [Addr.add]
        · intro v' w2 hown2 hgrow _
          have HO2 := Lib.hid (show OwnE w2 (w.heap.size + 1) v' (preP p (k + 1)) by
            rw [HF.out]
            show w2.ownsRow _ _ _ _ _ _
            simpa [List.flatMap_append] using hown2)
          have HB2 := Lib.hid ((HB1.out.alloc HB1.out.size (.cells #[.int .i64 x.off, .int .i64 x.id, .string x.key, .string x.body] 29)).grown hgrow (by have := HB1.out.size; simp; omega) (fun j hj => by have := (HO1.out.lt j hj).1; omega))
          have HP2 := Lib.hid (Blk.grown (HP.out.alloc _) hgrow (own_ne HO1.out (by omega)))
          clear hown2 hgrow
          go_wp2_with fail
          go_roundg (n - (k + 1))
          case measure => omega
          case rel => exact ⟨k + 1, by omega, rfl, by go_num, HO2, HB2, HP2⟩
    · obtain rfl : k = n := by omega
      have hlt' : ¬ (k : Int) < (k : Int) := by omega
      have ho := HO.out
      rw [show preP p k = entP p by rw [HN.out]; exact preP_all p] at ho
      obtain ⟨a', cap', hv'⟩ := own_shape ho
      have HO' := Lib.hid ho
      subst hv'
      clear ho
      go_wp2_with fail
      go_ret
      exact ⟨a', cap', rfl, own_base HO'.out (by omega), HB.out⟩

theorem hasL_from {p : Pl} {k : Nat} (h : shapedP p) (hk : (k : Int) < p.mark) (key : ByteArray) : hasL p.mark key (p.all.drop k) = (decide ((p.all.getD k default).key = key) || hasL p.mark key (p.all.drop (k + 1))) := by
  obtain ⟨h1, h2, ⟨h3, h4⟩, h5, h6⟩ := h
  have hkl : k < p.all.length := by omega
  have ho := (h1 k hkl).1
  rw [drop_cons hkl, hasL_cons, ho, decide_eq_true hk, Bool.true_and]
theorem hasL_past {p : Pl} {k : Nat} (h : shapedP p) (hk : p.mark ≤ (k : Int)) (key : ByteArray) : hasL p.mark key (p.all.drop k) = false := by
  obtain ⟨h1, h2, ⟨h3, h4⟩, h5, h6⟩ := h
  rw [hasL_no]
  intro y hy hm
  obtain ⟨j, hj, rfl⟩ := List.getElem_of_mem hy
  rw [List.length_drop] at hj
  rw [List.getElem_drop] at hm
  have ho := (h1 (k + j) (by omega)).1
  rw [getD_at (by omega)] at ho
  omega

set_option maxHeartbeats 4000000 in
set_option maxRecDepth 100000 in
theorem refKept_any {v : Value} {p : Pl} {w : World} (i : Nat) (h : PlR w v p) (hs : shapedP p) (hi : i < p.all.length) :
    Calls Try.prog 47 #[v, .int .i64 (i : Int)] w fun e w' => e = .returned (.bool (keptI p i)) ∧ Below w.heap.size w w' := by
  have HS := Lib.hid hs
  obtain ⟨a, cap, rfl, hsl⟩ := h
  obtain ⟨h1, h2, ⟨h3, h4⟩, h5, h6⟩ := id hs
  have hk0 := keptI_off (h1 i hi)
  obtain ⟨⟨_, hcap⟩, ⟨hmx, _⟩, hd⟩ := hsl.ents
  obtain ⟨b, off, ha, hat⟩ := hd (by omega)
  subst ha
  have HD := Lib.hid hat
  obtain ⟨key, hkey⟩ : ∃ key, key = (p.all.getD i default).key := ⟨_, rfl⟩
  rw [← hkey] at hk0
  have HKEY := Lib.hid hkey
  obtain ⟨n, hn⟩ : ∃ n, n = p.all.length := ⟨_, rfl⟩
  rw [← hn] at hcap h2 h4 h6 hi ⊢
  have HN := Lib.hid hn
  obtain ⟨z, hz⟩ : ∃ z, z = keptI p i := ⟨_, rfl⟩
  rw [← hz]
  have HK := Lib.hid (hz.trans hk0)
  obtain ⟨mk, hmk⟩ : ∃ mk : Nat, p.mark = (mk : Int) := ⟨p.mark.toNat, by omega⟩
  obtain ⟨pm, hpm⟩ : ∃ pm, pm = p.mark := ⟨_, rfl⟩
  have HPM := Lib.hid hpm
  rw [← hpm] at hmk h6 h5 ⊢
  subst hmk
  unfold maxLen at hmx
  have hi9 : (i : Int) < (n : Int) := by omega
  have hw1 : IntKind.i64.wrap ((i : Int) + 1) = ((i + 1 : Nat) : Int) := by rw [IntWalk.i64_in _ (by omega)]; omega
  clear hs h1 hk0 hsl hd hat hkey hn hpm hz
  go_enter Try.func47, Try.ntmps47
  go_wp2_with fail
  go_loopg [5] (n - i) (fun g j wr => ∃ k : Nat, (i + 1 ≤ k ∧ k ≤ n + 1) ∧ g = n + 1 - k ∧ j = .int .i64 (k : Int) ∧ Hid (hasL p.mark key (p.all.drop (i + 1)) = hasL p.mark key (p.all.drop k)) ∧ Hid (Below w.heap.size w wr) ∧ Hid (Blk wr w.heap.size 84 [.slice (some ⟨b, off, none⟩) n cap, .int .i64 p.base, .int .i64 (mk : Int)]))
  case atStart => exact ⟨i + 1, ⟨Nat.le_refl _, by omega⟩, by omega, rfl, rfl, below_alloc (Below.refl _ _), Blk.new rfl⟩
  case round =>
    obtain ⟨k, ⟨hk1, hk2⟩, rfl, rfl, HL, HB, HP⟩ := hrel
    obtain ⟨p0, p1, p2, pz⟩ := cells3 HP.out
    have pl := HP.out.lt
    have k0 : (0 : Int) ≤ (k : Int) := by omega
    by_cases hlt : k < mk
    · have hkm : (k : Int) < (mk : Int) := by omega
      have hkn : (k : Int) < (n : Int) := by omega
      have hkl : k < p.all.length := by rw [← HN.out]; omega
      have cx := keep HB.out (HD.out k hkl).1.2
      have cy := keep HB.out (HD.out i (by rw [← HN.out]; exact hi)).1.2
      obtain ⟨xk, hxk⟩ : ∃ xk, xk = (p.all.getD k default).key := ⟨_, rfl⟩
      rw [← hxk] at cx
      rw [← HKEY.out] at cy
      obtain ⟨q, hq⟩ : ∃ q, q = decide (xk = key) := ⟨_, rfl⟩
      have hq2 : (xk.toList == key.toList) = q := by
        rw [hq]
        by_cases e : xk = key
        · simp [e]
        · have h2 : xk.toList ≠ key.toList := fun h => e (toList_eq h)
          simp [e, h2]
      have hF := hasL_from HS.out (k := k) (by rw [← HPM.out]; exact hkm) key
      rw [← hxk, ← hq] at hF
      have HF := Lib.hid hF
      have hgb : b < wr.heap.size := World.block_lt_of_cell? wr _ cx
      have hw2 : IntKind.i64.wrap ((k : Int) + 1) = ((k + 1 : Nat) : Int) := by rw [IntWalk.i64_in _ (by omega)]; omega
      clear hxk hq hF
      cases q
      · go_wp2_with fail
        go_region
        go_wp2_with fail
        go_roundg (n + 1 - (k + 1))
        case measure => omega
        case rel =>
          refine ⟨k + 1, ⟨by omega, by omega⟩, rfl, rfl, ?_, Lib.hid (Below.drew HB.out), Lib.hid (Blk.drew HP.out)⟩
          show hasL p.mark key (p.all.drop (i + 1)) = hasL p.mark key (p.all.drop (k + 1))
          rw [HL.out, HF.out, Bool.false_or]
      · have e : z = false := by
          rw [HK.out, HL.out, HF.out, Bool.true_or, ← HPM.out]
          simp
          omega
        subst e
        go_wp2_with fail
        go_region
        go_wp2_with fail
        go_ret
        exact ⟨rfl, Below.drew HB.out⟩
    · have hkm : ¬ (k : Int) < (mk : Int) := by omega
      have e : z = decide (p.base ≤ (i : Int)) := by
        rw [HK.out, HL.out, hasL_past HS.out (by rw [← HPM.out]; omega), Bool.and_false]
        simp
      subst e
      go_wp2_with fail
      go_ret
      exact ⟨by first | rfl | simp, HB.out⟩

set_option maxHeartbeats 4000000 in
set_option maxRecDepth 100000 in
theorem refEntries_any {v : Value} {p : Pl} {w : World} (h : PlR w v p) (hs : shapedP p) :
    Calls Try.prog 51 #[v] w (CloneEnd (entP p) w) := by
  obtain ⟨i0, hi, hz0, hz1, hz2⟩ := info_parts info_ent
  have PP := Lib.hid h
  have HS := Lib.hid hs
  obtain ⟨a, cap, rfl, hsl⟩ := h
  have h2 := hs.2.1
  obtain ⟨⟨_, hcap⟩, ⟨hmx, _⟩, hd⟩ := hsl.ents
  have HD := Lib.hid hd
  obtain ⟨n, hn⟩ : ∃ n, n = p.all.length := ⟨_, rfl⟩
  rw [← hn] at HD PP hcap h2 ⊢
  have HN := Lib.hid hn
  unfold maxLen at hmx
  have hl0 : (n : Int) ≤ 600 := by omega
  clear hs hsl hd hn
  go_enter Try.func51, Try.ntmps51
  go_wp2_with fail
  go_loopg [3, 4] n (fun g o i wr => ∃ k : Nat, k ≤ n ∧ g = n - k ∧ i = .int .i64 (k : Int) ∧ Hid (OwnE wr (w.heap.size + 1) o (preP p k)) ∧ Hid (Below w.heap.size w wr) ∧ Hid (Blk wr w.heap.size 84 [.slice a n cap, .int .i64 p.base, .int .i64 p.mark]))
  case atStart => exact ⟨0, Nat.zero_le _, rfl, rfl, World.ownsRow_nil _ _ _ _, below_alloc (Below.refl _ _), Blk.new rfl⟩
  case round =>
    obtain ⟨k, hk, rfl, rfl, HO, HB, HP⟩ := hrel
    obtain ⟨p0, p1, p2, pz⟩ := cells3 HP.out
    have pl := HP.out.lt
    by_cases hlt : k < n
    · have hk0 : (0 : Int) ≤ (k : Int) := by omega
      have hk1 : (k : Int) < (n : Int) := by omega
      have hkl : k < p.all.length := by rw [← HN.out]; exact hlt
      obtain ⟨bb, off, ha, h1⟩ := HD.out (by omega)
      subst ha
      have cc := h1 k hkl
      clear h1
      obtain ⟨x, hx⟩ : ∃ x, x = p.all.getD k default := ⟨_, rfl⟩
      rw [← hx] at cc
      have c0 := keep HB.out cc.1.1.1
      have c1 := keep HB.out cc.1.1.2
      have c2 := keep HB.out cc.1.2
      have c3 := keep HB.out cc.2
      have hgb : bb < wr.heap.size := World.block_lt_of_cell? wr _ c0
      have HLEN := Lib.hid (show (preP p k).length ≤ 600 by have := preP_len p k; omega)
      have KK : Hid (∀ (W : World) {v : Value}, PlR W v p → Calls Try.prog 47 #[v, .int .i64 (k : Int)] W fun e w' => e = .returned (.bool (keptI p k)) ∧ Below W.heap.size W w') := Lib.hid (fun W v hW => refKept_any k hW HS.out hkl)
      obtain ⟨q, hq⟩ : ∃ q, q = keptI p k := ⟨_, rfl⟩
      have HF := Lib.hid (show preP p (k + 1) = preP p k ++ (if q = true then [x] else []) by rw [preP, hq, hx])
      rw [← hq] at KK
      have HCC := Lib.hid cc
      clear hx cc hkl hq
      go_wp2_with fail
      refine Calls.mono (KK.out _ ?_) ?_
      · exact PP.out.below (by repeat (first | (with_reducible exact HB.out) | (with_reducible exact Below.refl _ _) | (with_reducible apply Below.drew) | (with_reducible apply below_alloc) | ((with_reducible refine Below.alloc ?_ ?_ _); rotate_left; focus (first | (simp; done) | (simp; omega) | omega)) | ((with_reducible refine Below.setCell ?_ ?_ _); rotate_left; focus (first | (simp; done) | (simp; omega) | omega))))
      rintro e w1 ⟨rfl, hb⟩
      have HB1 : Hid (Below w.heap.size w w1) := below_step (by repeat (first | (with_reducible exact HB.out) | (with_reducible exact Below.refl _ _) | (with_reducible apply Below.drew) | (with_reducible apply below_alloc) | ((with_reducible refine Below.alloc ?_ ?_ _); rotate_left; focus (first | (simp; done) | (simp; omega) | omega)) | ((with_reducible refine Below.setCell ?_ ?_ _); rotate_left; focus (first | (simp; done) | (simp; omega) | omega)))) hb
      replace HP : Hid (Blk w1 w.heap.size 84 _) := Blk.step (by repeat (first | (with_reducible exact HP.out) | ((with_reducible apply Blk.new); focus (first | rfl | (simp; done) | (simp; omega))) | (with_reducible apply Blk.drew) | (with_reducible apply Blk.alloc) | (with_reducible apply Blk.set_) | ((with_reducible apply Blk.far); rotate_left; focus (first | (simp; done) | (simp; omega) | omega)))) hb
      have HO1 : Hid (OwnE w1 (w.heap.size + 1) _ (preP p k)) := own_step (by repeat (first | (with_reducible exact HO.out) | (with_reducible apply own_drew) | (with_reducible apply own_alloc) | ((with_reducible apply own_set); rotate_left; focus (first | (simp; done) | (simp; omega) | omega)))) hb
      clear hb p0 p1 p2 pz pl c0 c1 c2 c3
      obtain ⟨p0, p1, p2, pz⟩ := cells3 HP.out
      have pl := HP.out.lt
      have c0 := keep HB1.out HCC.out.1.1.1
      have c1 := keep HB1.out HCC.out.1.1.2
      have c2 := keep HB1.out HCC.out.1.2
      have c3 := keep HB1.out HCC.out.2
      cases q
      · have HF' : Hid (preP p (k + 1) = preP p k) := Lib.hid (by rw [HF.out]; simp)
        clear HF
        go_wp2_with fail
        go_roundg (n - (k + 1))
        case measure => omega
        case rel =>
          refine ⟨k + 1, by omega, rfl, by go_num, ?_, HB1, HP⟩
          show OwnE _ _ _ (preP p (k + 1))
          rw [HF'.out]
          exact HO1.out
      · have HF' : Hid (preP p (k + 1) = preP p k ++ [x]) := Lib.hid (by rw [HF.out]; simp)
        clear HF
        have HF := HF'
        go_wp2_with (at_builtin; go_must (refine wpList_append_own _ rfl _ _ 68 rfl (w.heap.size + 1) 29 i0 _ 4 48 Try.underlying68 hi hz0 hz1 hz2 rfl (by decide) _ _ _ rfl (HO1.out.alloc _) ⟨w1.heap.size, 0, none⟩ 1 1 (entCells x) rfl rfl ?_ (by intro v hv; simp [entCells] at hv; rcases hv with rfl | rfl | rfl | rfl <;> rfl) (by have := HLEN.out; unfold maxLen; omega) (by have := HLEN.out; omega) (by have := HB1.out.size; have := pl; simp; omega) ?_))
        · intro j v hv
          match j, hv with
          | 0, hv => simp [entCells] at hv; subst hv; simp [Addr.add]
          | 1, hv => simp [entCells] at hv; subst hv; simp [Addr.add]
          | 2, hv => simp [entCells] at hv; subst hv; simp [Addr.add]
          | 3, hv => simp [entCells] at hv; subst hv; simp [Addr.add]
        · intro v' w2 hown2 hgrow _
          have HO2 := Lib.hid (show OwnE w2 (w.heap.size + 1) v' (preP p (k + 1)) by
            rw [HF.out]
            show w2.ownsRow _ _ _ _ _ _
            simpa [List.flatMap_append] using hown2)
          have HB2 := Lib.hid ((HB1.out.alloc HB1.out.size (.cells #[.int .i64 x.off, .int .i64 x.id, .string x.key, .string x.body] 29)).grown hgrow (by have := HB1.out.size; simp; omega) (fun j hj => by have := (HO1.out.lt j hj).1; omega))
          have HP2 := Lib.hid (Blk.grown (HP.out.alloc _) hgrow (own_ne HO1.out (by omega)))
          clear hown2 hgrow
          go_wp2_with fail
          go_roundg (n - (k + 1))
          case measure => omega
          case rel => exact ⟨k + 1, by omega, rfl, by go_num, HO2, HB2, HP2⟩
    · obtain rfl : k = n := by omega
      have hlt' : ¬ (k : Int) < (k : Int) := by omega
      have ho := HO.out
      rw [show preP p k = entP p by rw [HN.out]; exact preP_all p] at ho
      obtain ⟨a', cap', hv'⟩ := own_shape ho
      have HO' := Lib.hid ho
      subst hv'
      clear ho
      go_wp2_with fail
      go_ret
      exact ⟨a', cap', rfl, own_base HO'.out (by omega), HB.out⟩
end Go.Proofs.Ytblgmjbajnkcdab
