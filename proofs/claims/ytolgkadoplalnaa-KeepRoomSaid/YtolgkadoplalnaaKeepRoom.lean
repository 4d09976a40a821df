/-
  The given statement KeepRoom: as many messages can be added as there is room for, and then no more. No condition.
-/
import Derived.Test.YtolgkadoplalnaaRows
import Derived.Test.YtolgkadoplalnaaChecked
import Derived.Test.YtolgkadoplalnaaLaw
import Derived.Test.YtolgkadoplalnaaFive18
import Derived.Test.YtolgkadoplalnaaGreat17
import Derived.KernelRfl
namespace Go.Proofs.Ytolgkadoplalnaa.KeepRoom
open Go.RowKit Go.ChangeShapes Go.WideShapes Go.ChangeAt

theorem add_room {t : Top} (h : t.may) (h1 : t.next ≠ 1073741824) (h2 : t.ents.length ≠ 200) : addP t 1 ⟨#[]⟩ ⟨#[]⟩ = (addT t 1 ⟨#[]⟩ ⟨#[]⟩, t.next, 0) := by
  rw [addP, if_pos h, if_neg (by omega), if_neg (show ¬ (16 < (⟨#[]⟩ : ByteArray).size ∨ 64 < (⟨#[]⟩ : ByteArray).size) by decide), if_neg (by omega)]
  rfl
theorem add_full {t : Top} (h : t.may) (h1 : t.next = 1073741824 ∨ t.ents.length = 200) : addP t 1 ⟨#[]⟩ ⟨#[]⟩ = (Top.zero, 0, 9) := by
  rw [addP, if_pos h, if_neg (by omega), if_neg (show ¬ (16 < (⟨#[]⟩ : ByteArray).size ∨ 64 < (⟨#[]⟩ : ByteArray).size) by decide), if_pos h1]

set_option maxHeartbeats 8000000 in
set_option maxRecDepth 100000 in
theorem walk {v : Value} {t : Top} {w : World} (h : TopR w v t) (ok : topOk t) : Calls Try.prog 12 #[v] w (LawEnd w) := by
  have T := Lib.hid h
  have HKT := Lib.hid (top_keys ok)
  have HK2 := Lib.hid (top_sizes ok)
  obtain ⟨a, cap, rfl, _⟩ := h
  clear ok
  obtain ⟨n, e, hr⟩ : ∃ n e, roomP t = (n, e) := ⟨_, _, rfl⟩
  have HRM := Lib.hid hr
  have hc : (e = 8 ∧ n = 0) ∨ (e = 0 ∧ t.may ∧ n = min (200 - (t.ents.length : Int)) (1073741824 - t.next)) := by
    unfold roomP at hr
    by_cases hm : t.may
    · rw [if_pos hm] at hr; cases hr; exact Or.inr ⟨rfl, hm, rfl⟩
    · rw [if_neg hm] at hr; cases hr; exact Or.inl ⟨rfl, rfl⟩
  clear hr
  go_enter Try.func12, Try.ntmps12
  go_wp2_with fail
  refine Calls.mono (alive18_any _) ?_
  rintro e_ w1 ⟨rfl, hb⟩
  have HB : Hid (Below w.heap.size w _) := below_step (by repeat (first | (with_reducible exact Below.refl _ _) | (with_reducible exact Below.refl _ _) | (with_reducible apply Below.drew) | (with_reducible apply below_alloc) | ((with_reducible refine Below.alloc ?_ ?_ _); rotate_left; focus (first | (simp; done) | (simp; omega) | omega)) | ((with_reducible refine Below.setCell ?_ ?_ _); rotate_left; focus (first | (simp; done) | (simp; omega) | omega)))) hb
  have A : Blk _ (w.heap.size) _ _ := Blk.step (by repeat (first | ((with_reducible apply Blk.new); focus (first | rfl | (simp; done) | (simp; omega))) | (with_reducible apply Blk.drew) | (with_reducible apply Blk.alloc) | (with_reducible apply Blk.set_) | ((with_reducible apply Blk.far); rotate_left; focus (first | (simp; done) | (simp; omega) | omega)))) hb
  obtain ⟨a0, a1, a2, a3, az⟩ := cells4 A
  have al := Blk.lt A
  have HA := Lib.hid A
  clear A
  replace T : Hid (TopR _ _ _) := topR_step T.out (by repeat (first | (with_reducible exact Below.refl _ _) | (with_reducible exact Below.refl _ _) | (with_reducible apply Below.drew) | (with_reducible apply below_alloc) | ((with_reducible refine Below.alloc ?_ ?_ _); rotate_left; focus (first | (simp; done) | (simp; omega) | omega)) | ((with_reducible refine Below.setCell ?_ ?_ _); rotate_left; focus (first | (simp; done) | (simp; omega) | omega)))) hb
  clear hb
  go_wp2_with fail
  refine Calls.mono (great17_any ?_ HK2.out) ?_
  · exact T.out.below (by repeat (first | (with_reducible exact Below.refl _ _) | (with_reducible exact Below.refl _ _) | (with_reducible apply Below.drew) | (with_reducible apply below_alloc) | ((with_reducible refine Below.alloc ?_ ?_ _); rotate_left; focus (first | (simp; done) | (simp; omega) | omega)) | ((with_reducible refine Below.setCell ?_ ?_ _); rotate_left; focus (first | (simp; done) | (simp; omega) | omega))))
  rintro e_ w2 ⟨⟨gr, rfl, _⟩, hb⟩
  replace HB : Hid (Below w.heap.size w _) := below_step (by repeat (first | (with_reducible exact HB.out) | (with_reducible exact Below.refl _ _) | (with_reducible apply Below.drew) | (with_reducible apply below_alloc) | ((with_reducible refine Below.alloc ?_ ?_ _); rotate_left; focus (first | (simp; done) | (simp; omega) | omega)) | ((with_reducible refine Below.setCell ?_ ?_ _); rotate_left; focus (first | (simp; done) | (simp; omega) | omega)))) hb
  clear a0 a1 a2 a3 az al
  replace HA : Hid (Blk _ (w.heap.size) _ _) := Blk.step (by repeat (first | (with_reducible exact HA.out) | ((with_reducible apply Blk.new); focus (first | rfl | (simp; done) | (simp; omega))) | (with_reducible apply Blk.drew) | (with_reducible apply Blk.alloc) | (with_reducible apply Blk.set_) | ((with_reducible apply Blk.far); rotate_left; focus (first | (simp; done) | (simp; omega) | omega)))) hb
  obtain ⟨a0, a1, a2, a3, az⟩ := cells4 HA.out
  have al := Blk.lt HA.out
  replace T : Hid (TopR _ _ _) := topR_step T.out (by repeat (first | (with_reducible exact Below.refl _ _) | (with_reducible exact Below.refl _ _) | (with_reducible apply Below.drew) | (with_reducible apply below_alloc) | ((with_reducible refine Below.alloc ?_ ?_ _); rotate_left; focus (first | (simp; done) | (simp; omega) | omega)) | ((with_reducible refine Below.setCell ?_ ?_ _); rotate_left; focus (first | (simp; done) | (simp; omega) | omega)))) hb
  clear hb
  cases gr
  rotate_left
  · go_wp2_with fail
    go_ret
    exact ⟨rfl, HB.out⟩
  rcases hc with ⟨rfl, rfl⟩ | ⟨rfl, htm, hn⟩
  · go_wp2_with fail
    refine Calls.mono (room_any ?_ HKT.out HRM.out) ?_
    · exact T.out.below (by repeat (first | (with_reducible exact Below.refl _ _) | (with_reducible exact Below.refl _ _) | (with_reducible apply Below.drew) | (with_reducible apply below_alloc) | ((with_reducible refine Below.alloc ?_ ?_ _); rotate_left; focus (first | (simp; done) | (simp; omega) | omega)) | ((with_reducible refine Below.setCell ?_ ?_ _); rotate_left; focus (first | (simp; done) | (simp; omega) | omega))))
    rintro e_ w3 ⟨rfl, hb⟩
    replace HB : Hid (Below w.heap.size w _) := below_step (by repeat (first | (with_reducible exact HB.out) | (with_reducible exact Below.refl _ _) | (with_reducible apply Below.drew) | (with_reducible apply below_alloc) | ((with_reducible refine Below.alloc ?_ ?_ _); rotate_left; focus (first | (simp; done) | (simp; omega) | omega)) | ((with_reducible refine Below.setCell ?_ ?_ _); rotate_left; focus (first | (simp; done) | (simp; omega) | omega)))) hb
    clear hb
    go_wp2_with fail
    go_ret
    exact ⟨rfl, HB.out⟩
  · have h200 := htm.1.2.2.2.2.2.2
    have hmax := htm.1.2.1
    have n0 : 0 ≤ n := by omega
    have HTM := Lib.hid htm
    have HN := Lib.hid hn
    clear htm hn h200 hmax
    by_cases h30 : 30 < n
    · have HAD := Lib.hid (add_room HTM.out (by have := HN.out; omega) (by have := HN.out; omega))
      obtain ⟨u, hu⟩ : ∃ u, u = addT t 1 ⟨#[]⟩ ⟨#[]⟩ := ⟨_, rfl⟩
      rw [← hu] at HAD
      clear hu
      go_wp2_with fail
      refine Calls.mono (room_any ?_ HKT.out HRM.out) ?_
      · exact T.out.below (by repeat (first | (with_reducible exact Below.refl _ _) | (with_reducible exact Below.refl _ _) | (with_reducible apply Below.drew) | (with_reducible apply below_alloc) | ((with_reducible refine Below.alloc ?_ ?_ _); rotate_left; focus (first | (simp; done) | (simp; omega) | omega)) | ((with_reducible refine Below.setCell ?_ ?_ _); rotate_left; focus (first | (simp; done) | (simp; omega) | omega))))
      rintro e_ w3 ⟨rfl, hb⟩
      replace HB : Hid (Below w.heap.size w _) := below_step (by repeat (first | (with_reducible exact HB.out) | (with_reducible exact Below.refl _ _) | (with_reducible apply Below.drew) | (with_reducible apply below_alloc) | ((with_reducible refine Below.alloc ?_ ?_ _); rotate_left; focus (first | (simp; done) | (simp; omega) | omega)) | ((with_reducible refine Below.setCell ?_ ?_ _); rotate_left; focus (first | (simp; done) | (simp; omega) | omega)))) hb
      clear a0 a1 a2 a3 az al
      replace HA : Hid (Blk _ (w.heap.size) _ _) := Blk.step (by repeat (first | (with_reducible exact HA.out) | ((with_reducible apply Blk.new); focus (first | rfl | (simp; done) | (simp; omega))) | (with_reducible apply Blk.drew) | (with_reducible apply Blk.alloc) | (with_reducible apply Blk.set_) | ((with_reducible apply Blk.far); rotate_left; focus (first | (simp; done) | (simp; omega) | omega)))) hb
      obtain ⟨a0, a1, a2, a3, az⟩ := cells4 HA.out
      have al := Blk.lt HA.out
      replace T : Hid (TopR _ _ _) := topR_step T.out (by repeat (first | (with_reducible exact Below.refl _ _) | (with_reducible exact Below.refl _ _) | (with_reducible apply Below.drew) | (with_reducible apply below_alloc) | ((with_reducible refine Below.alloc ?_ ?_ _); rotate_left; focus (first | (simp; done) | (simp; omega) | omega)) | ((with_reducible refine Below.setCell ?_ ?_ _); rotate_left; focus (first | (simp; done) | (simp; omega) | omega)))) hb
      clear hb
      go_wp2_with fail
      refine Calls.mono (add_any 1 ⟨#[]⟩ ⟨#[]⟩ ?_ HKT.out HAD.out) ?_
      · exact T.out.below (by repeat (first | (with_reducible exact Below.refl _ _) | (with_reducible exact Below.refl _ _) | (with_reducible apply Below.drew) | (with_reducible apply below_alloc) | ((with_reducible refine Below.alloc ?_ ?_ _); rotate_left; focus (first | (simp; done) | (simp; omega) | omega)) | ((with_reducible refine Below.setCell ?_ ?_ _); rotate_left; focus (first | (simp; done) | (simp; omega) | omega))))
      rintro e_ w4 ⟨ad4, cp4, rfl, ow4, hb⟩
      replace HB : Hid (Below w.heap.size w _) := below_step (by repeat (first | (with_reducible exact HB.out) | (with_reducible exact Below.refl _ _) | (with_reducible apply Below.drew) | (with_reducible apply below_alloc) | ((with_reducible refine Below.alloc ?_ ?_ _); rotate_left; focus (first | (simp; done) | (simp; omega) | omega)) | ((with_reducible refine Below.setCell ?_ ?_ _); rotate_left; focus (first | (simp; done) | (simp; omega) | omega)))) hb
      clear hb ow4
      go_wp2_with fail
      go_ret
      refine ⟨rfl, ?_⟩
      repeat (first | (with_reducible exact HB.out) | (with_reducible exact Below.refl _ _) | (with_reducible apply Below.drew) | (with_reducible apply below_alloc) | ((with_reducible refine Below.alloc ?_ ?_ _); rotate_left; focus (first | (simp; done) | (simp; omega) | omega)) | ((with_reducible refine Below.setCell ?_ ?_ _); rotate_left; focus (first | (simp; done) | (simp; omega) | omega)))
    · obtain ⟨N, rfl⟩ : ∃ N : Nat, n = (N : Int) := ⟨n.toNat, by omega⟩
      have n30 : (N : Int) ≤ 30 := by omega
      clear n0 h30
      go_wp2_with fail
      refine Calls.mono (room_any ?_ HKT.out HRM.out) ?_
      · exact T.out.below (by repeat (first | (with_reducible exact Below.refl _ _) | (with_reducible exact Below.refl _ _) | (with_reducible apply Below.drew) | (with_reducible apply below_alloc) | ((with_reducible refine Below.alloc ?_ ?_ _); rotate_left; focus (first | (simp; done) | (simp; omega) | omega)) | ((with_reducible refine Below.setCell ?_ ?_ _); rotate_left; focus (first | (simp; done) | (simp; omega) | omega))))
      rintro e_ w3 ⟨rfl, hb⟩
      replace HB : Hid (Below w.heap.size w _) := below_step (by repeat (first | (with_reducible exact HB.out) | (with_reducible exact Below.refl _ _) | (with_reducible apply Below.drew) | (with_reducible apply below_alloc) | ((with_reducible refine Below.alloc ?_ ?_ _); rotate_left; focus (first | (simp; done) | (simp; omega) | omega)) | ((with_reducible refine Below.setCell ?_ ?_ _); rotate_left; focus (first | (simp; done) | (simp; omega) | omega)))) hb
      clear a0 a1 a2 a3 az al
      replace HA : Hid (Blk _ (w.heap.size) _ _) := Blk.step (by repeat (first | (with_reducible exact HA.out) | ((with_reducible apply Blk.new); focus (first | rfl | (simp; done) | (simp; omega))) | (with_reducible apply Blk.drew) | (with_reducible apply Blk.alloc) | (with_reducible apply Blk.set_) | ((with_reducible apply Blk.far); rotate_left; focus (first | (simp; done) | (simp; omega) | omega)))) hb
      obtain ⟨a0, a1, a2, a3, az⟩ := cells4 HA.out
      have al := Blk.lt HA.out
      replace T : Hid (TopR _ _ _) := topR_step T.out (by repeat (first | (with_reducible exact Below.refl _ _) | (with_reducible exact Below.refl _ _) | (with_reducible apply Below.drew) | (with_reducible apply below_alloc) | ((with_reducible refine Below.alloc ?_ ?_ _); rotate_left; focus (first | (simp; done) | (simp; omega) | omega)) | ((with_reducible refine Below.setCell ?_ ?_ _); rotate_left; focus (first | (simp; done) | (simp; omega) | omega)))) hb
      clear hb
      go_wp2_with fail
      go_loopg [9] N (fun g i wr => ∃ (k : Nat) (s : Top) (ad : Option Addr) (cp : Nat), k ≤ N ∧ g = N - k ∧ i = .int .i64 (k : Int) ∧ Hid s.may ∧ Hid ((N : Int) - k = min (200 - (s.ents.length : Int)) (1073741824 - s.next)) ∧
        Hid (TopR wr (.agg #[.int .i64 s.base, .int .i64 s.next, .int .i64 s.mark, .slice ad s.ents.length cp]) s) ∧ Hid (Below w.heap.size w wr) ∧
        Hid (Blk wr w.heap.size 24 [.int .i64 s.base, .int .i64 s.next, .int .i64 s.mark, .slice ad s.ents.length cp]))
      case atStart => exact ⟨0, t, a, cap, Nat.zero_le _, rfl, rfl, HTM, by have := HN.out; show _ = _; omega, T, HB, HA⟩
      case round =>
        clear T HB HA HTM HN a0 a1 a2 a3 az al HKT HRM
        obtain ⟨k, s, ad, cp, hk, rfl, rfl, HTM, HN, T, HB, HA⟩ := hrel
        obtain ⟨wo, rfl⟩ : ∃ wo : World, wo = wr := ⟨_, rfl⟩
        obtain ⟨a0, a1, a2, a3, az⟩ := cells4 HA.out
        have al := HA.out.lt
        have HKS := Lib.hid (keys_of_may HTM.out)
        by_cases hlt : k < N
        · have hk1 : (k : Int) < (N : Int) := by omega
          have HAD := Lib.hid (add_room HTM.out (by have := HN.out; omega) (by have := HN.out; omega))
          have HNX := Lib.hid (show (N : Int) - ((k + 1 : Nat) : Int) = min (200 - ((addT s 1 ⟨#[]⟩ ⟨#[]⟩).ents.length : Int)) (1073741824 - (addT s 1 ⟨#[]⟩ ⟨#[]⟩).next) by
            have := HN.out
            have e1 : (addT s 1 ⟨#[]⟩ ⟨#[]⟩).ents.length = s.ents.length + 1 := by show (s.ents ++ [_]).length = _; simp
            have e2 : (addT s 1 ⟨#[]⟩ ⟨#[]⟩).next = s.next + 1 := rfl
            rw [e1, e2]
            omega)
          have HMX := Lib.hid (add_may (id := 1) (k := ⟨#[]⟩) (b := ⟨#[]⟩) HTM.out ⟨by omega, by omega, by show 0 ≤ 16; omega, by show 0 ≤ 64; omega⟩ (by have := HN.out; omega) (by have := HN.out; omega))
          obtain ⟨u, hu⟩ : ∃ u, u = addT s 1 ⟨#[]⟩ ⟨#[]⟩ := ⟨_, rfl⟩
          rw [← hu] at HAD HNX HMX
          clear hu
          have so : w.heap.size < wo.heap.size := al
          go_wp2_with fail
          refine Calls.mono (add_any 1 ⟨#[]⟩ ⟨#[]⟩ ?_ HKS.out HAD.out) ?_
          · exact T.out.below (by repeat (first | (with_reducible exact Below.refl _ _) | (with_reducible exact Below.refl _ _) | (with_reducible apply Below.drew) | (with_reducible apply below_alloc) | ((with_reducible refine Below.alloc ?_ ?_ _); rotate_left; focus (first | (simp; done) | (simp; omega) | omega)) | ((with_reducible refine Below.setCell ?_ ?_ _); rotate_left; focus (first | (simp; done) | (simp; omega) | omega))))
          rintro e_ w4 ⟨ad4, cp4, rfl, ow4, hb⟩
          replace HB : Hid (Below w.heap.size w _) := below_step (by repeat (first | (with_reducible exact HB.out) | (with_reducible exact Below.refl _ _) | (with_reducible apply Below.drew) | (with_reducible apply below_alloc) | ((with_reducible refine Below.alloc ?_ ?_ _); rotate_left; focus (first | (simp; done) | (simp; omega) | omega)) | ((with_reducible refine Below.setCell ?_ ?_ _); rotate_left; focus (first | (simp; done) | (simp; omega) | omega)))) hb
          clear a0 a1 a2 a3 az al
          replace HA : Hid (Blk _ (w.heap.size) _ _) := Blk.step (by repeat (first | (with_reducible exact HA.out) | ((with_reducible apply Blk.new); focus (first | rfl | (simp; done) | (simp; omega))) | (with_reducible apply Blk.drew) | (with_reducible apply Blk.alloc) | (with_reducible apply Blk.set_) | ((with_reducible apply Blk.far); rotate_left; focus (first | (simp; done) | (simp; omega) | omega)))) hb
          obtain ⟨a0, a1, a2, a3, az⟩ := cells4 HA.out
          have al := Blk.lt HA.out
          have O4 := Lib.hid ow4
          clear hb ow4
          go_wp2_with fail
          go_roundg (N - (k + 1))
          case measure => omega
          case rel =>
            refine ⟨k + 1, u, ad4, cp4, by omega, rfl, by go_num, HMX, HNX, ?_, ?_, ?_⟩
            · refine own_top (B := wo.heap.size) ?_
              repeat (first | (with_reducible exact O4.out) | (with_reducible apply own_drew) | (with_reducible apply own_alloc) | ((with_reducible apply own_set); rotate_left; focus (first | (simp; done) | (simp; omega) | omega)))
            · show Below _ _ _
              repeat (first | (with_reducible exact HB.out) | (with_reducible exact Below.refl _ _) | (with_reducible apply Below.drew) | (with_reducible apply below_alloc) | ((with_reducible refine Below.alloc ?_ ?_ _); rotate_left; focus (first | (simp; done) | (simp; omega) | omega)) | ((with_reducible refine Below.setCell ?_ ?_ _); rotate_left; focus (first | (simp; done) | (simp; omega) | omega)))
            · exact Blk.alloc ((((HA.out.set_ 0 _).set_ 1 _).set_ 2 _).set_ 3 _) _
        · obtain rfl : k = N := by omega
          have hlt' : ¬ (k : Int) < (k : Int) := by omega
          have HAD := Lib.hid (add_full HTM.out (by have := HN.out; omega))
          go_wp2_with fail
          refine Calls.mono (add_any 1 ⟨#[]⟩ ⟨#[]⟩ ?_ HKS.out HAD.out) ?_
          · exact T.out.below (by repeat (first | (with_reducible exact Below.refl _ _) | (with_reducible exact Below.refl _ _) | (with_reducible apply Below.drew) | (with_reducible apply below_alloc) | ((with_reducible refine Below.alloc ?_ ?_ _); rotate_left; focus (first | (simp; done) | (simp; omega) | omega)) | ((with_reducible refine Below.setCell ?_ ?_ _); rotate_left; focus (first | (simp; done) | (simp; omega) | omega))))
          rintro e_ w4 ⟨ad4, cp4, rfl, ow4, hb⟩
          replace HB : Hid (Below w.heap.size w _) := below_step (by repeat (first | (with_reducible exact HB.out) | (with_reducible exact Below.refl _ _) | (with_reducible apply Below.drew) | (with_reducible apply below_alloc) | ((with_reducible refine Below.alloc ?_ ?_ _); rotate_left; focus (first | (simp; done) | (simp; omega) | omega)) | ((with_reducible refine Below.setCell ?_ ?_ _); rotate_left; focus (first | (simp; done) | (simp; omega) | omega)))) hb
          clear hb ow4
          go_wp2_with fail
          go_ret
          refine ⟨rfl, ?_⟩
          repeat (first | (with_reducible exact HB.out) | (with_reducible exact Below.refl _ _) | (with_reducible apply Below.drew) | (with_reducible apply below_alloc) | ((with_reducible refine Below.alloc ?_ ?_ _); rotate_left; focus (first | (simp; done) | (simp; omega) | omega)) | ((with_reducible refine Below.setCell ?_ ?_ _); rotate_left; focus (first | (simp; done) | (simp; omega) | omega)))

theorem own : ownKnob Try.prog.godebug = none := by kernel_rfl

set_option maxRecDepth 100000 in
set_option linter.unusedVariables false in
theorem lifted (os : Os) (started : os.Started) (H : Type) (enc : TypeId × Value → H) :
    ReturnsInHanded {} Try.checked os 12 .any (Rows.keepRoomSpec.pre6 enc Try.prog Try.f12 Rows.keepRoomRow.domain false) (Rows.keepRoomSpec.post enc Try.prog Try.f12 false true false false) := by
  refine returnsInHanded_of_change_sized (C := Try.checked) own started (by kernel_rfl) Try.func12
    (ChangeSpec.witness6 (enc := enc) (C := Try.checked) false ⟨#[], #[.agg #[.int .i64 0, .int .i64 0, .int .i64 0, .slice none 0 0]], []⟩ 8 (by kernel_rfl) (by kernel_rfl) (by kernel_rfl) (by kernel_rfl)) ?_
  intro W base args ds gs before hval0 hW hcnd hsz0 hholds
  have hsz : (DataW.weightsEach Try.prog (Try.f12.params.toList ++ Rows.keepRoomSpec.plain.varTypes Try.prog) (ds ++ gs)).all (· ≤ reachBytes) = true := hsz0
  have hval : ∀ (j : Nat) t v, Try.f12.params[j]? = some t → args[j]? = some v → Value.okWide Try.prog W .any base t v := hval0
  have hW' := hW
  obtain ⟨p, q, hA0, hV, _, hfz, _⟩ := hW
  have hA : DataW.TrodAll enc Try.prog W 0 (fun _ => true) true Try.f12.params.toList args.toList ds p := hA0
  rw [Try.params12] at hA hval hsz
  obtain ⟨v0, vs0, d0, ds0, p0, q0, hargs, rfl, rfl, h0, r0⟩ := trodAll_cons hA
  obtain ⟨rfl, rfl, rfl⟩ := trodAll_nil r0
  obtain rfl : args = #[v0] := by cases args; simp_all
  obtain ⟨rfl, _⟩ := trodVars_none hV
  have hwt : ∀ (j : Nat) (t : TypeId) (d : DataW H), (_ : List TypeId)[j]? = some t → (_ : List (DataW H))[j]? = some d → ∀ n ∈ d.weights Try.prog t, n ≤ reachBytes := fun j t d ht hd n hn => by simpa using List.all_eq_true.1 hsz n (DataW.weights_mem_each ht hd n hn)
  obtain ⟨t0, R0⟩ := open_topic (hval 0 _ v0 rfl rfl) h0 (hwt 0 _ _ rfl rfl) ⟨Try.underlying24, cells_top, Try.underlying22, cells_ents, Try.underlying38, cells_ent, Try.underlying3, cells_int, Try.underlying9, cells_str, ⟨rfl, rfl⟩, ⟨rfl, rfl⟩, ⟨rfl, rfl⟩, ⟨rfl, rfl⟩, ⟨rfl, rfl⟩, ⟨rfl, rfl⟩, ⟨rfl, rfl⟩, ⟨rfl, rfl⟩⟩
  refine (walk R0.1 R0.2.1).mono fun e W' ⟨he, hb⟩ => ?_
  subst he
  exact ⟨_, rfl, law_post hW' rfl rfl rfl Try.underlying4 (by kernel_rfl) (by kernel_rfl) hb⟩

theorem over : Rows.keepRoomRow.holds Try.pinned (OpenSpec.ofChange Rows.keepRoomSpec) :=
  OpenClaim.holds_of_wide 12 Try.f12 rfl rfl rfl rfl rfl rfl rfl ⟨rfl, rfl, rfl, rfl, rfl⟩ rfl rfl rfl rfl rfl (by kernel_rfl) Try.func12 (by kernel_rfl)
    (of_decide_eq_true (by kernel_rfl)) (by unfold Func.isWrapper; rw [if_neg (of_decide_eq_false (by kernel_rfl))]; exact ⟨rfl, rfl⟩)
    (fun os started H enc _ => lifted os started H enc)

theorem proved : Rows.KeepRoomSaid := over
#print axioms proved

end Go.Proofs.Ytolgkadoplalnaa.KeepRoom
