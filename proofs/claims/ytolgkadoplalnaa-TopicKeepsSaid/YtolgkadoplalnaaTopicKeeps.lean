/-
  The given statement TopicKeeps: what is added is fetched, all else is as it was. No condition.
-/
import Derived.Test.YtolgkadoplalnaaRows
import Derived.Test.YtolgkadoplalnaaChecked
import Derived.Test.YtolgkadoplalnaaLaw
import Derived.Test.YtolgkadoplalnaaTopicFew
import Derived.Test.YtolgkadoplalnaaAddLaw
import Derived.ChangeMaps5
namespace Go.Proofs.Ytolgkadoplalnaa.TopicKeeps
open Go.RowKit Go.ChangeShapes Go.WideShapes Go.ChangeAt Go.ChangeMaps

theorem keeps {t : Top} {o : Int} {x : Ent} {n : Int} (h : t.may) (hf : fetchP t o = (x, n)) :
    0 < t.base ∨ (t.base ≤ 0 ∧ (0 < t.mark ∨ (t.mark ≤ 0 ∧ (o < 0 ∨ (0 ≤ o ∧ (t.next ≤ o ∨ (o < t.next ∧ n = 0 ∧ x.off = o))))))) := by
  have := TopicFew.few h hf
  omega
theorem neq_self (x : Ent) (w : World) : (binOp .neq 38 (.agg #[.int .i64 x.off, .int .i64 x.id, .string x.key, .string x.body]) (.agg #[.int .i64 x.off, .int .i64 x.id, .string x.key, .string x.body])).run Try.prog w = .ok (.bool false) w := by
  have := ent_neq x x w
  rwa [(eqEnt_iff x x).2 rfl] at this

set_option maxHeartbeats 8000000 in
set_option maxRecDepth 100000 in
theorem walk {v : Value} {t : Top} {w : World} (id : Int) (k b : ByteArray) (o : Int) (h : TopR w v t) (ok : topOk t) : Calls Try.prog 10 #[v, .int .i64 id, .string k, .string b, .int .i64 o] w (LawEnd w) := by
  have T := Lib.hid h
  have HK := Lib.hid (top_keys ok)
  have HK2 := Lib.hid (top_sizes ok)
  obtain ⟨a, cap, rfl, _⟩ := h
  have hG := ent_eqGuard
  clear ok
  go_enter Try.func10, Try.ntmps10
  go_wp2_with fail
  refine Calls.mono (alive17_any _) ?_
  rintro e w1 ⟨rfl, hb⟩
  have HB : Hid (Below w.heap.size w _) := below_step (by repeat (first | (with_reducible exact Below.refl _ _) | (with_reducible exact Below.refl _ _) | (with_reducible apply Below.drew) | (with_reducible apply below_alloc) | ((with_reducible refine Below.alloc ?_ ?_ _); rotate_left; focus (first | (simp; done) | (simp; omega) | omega)) | ((with_reducible refine Below.setCell ?_ ?_ _); rotate_left; focus (first | (simp; done) | (simp; omega) | omega)))) hb
  have A : Blk _ (w.heap.size) _ _ := Blk.step (by repeat (first | ((with_reducible apply Blk.new); focus (first | rfl | (simp; done) | (simp; omega))) | (with_reducible apply Blk.drew) | (with_reducible apply Blk.alloc) | (with_reducible apply Blk.set_) | ((with_reducible apply Blk.far); rotate_left; focus (first | (simp; done) | (simp; omega) | omega)))) hb
  obtain ⟨a0, a1, a2, a3, az⟩ := cells4 A
  have al := Blk.lt A
  have HA := Lib.hid A
  clear A
  replace T : Hid (TopR _ _ _) := topR_step T.out (by repeat (first | (with_reducible exact Below.refl _ _) | (with_reducible exact Below.refl _ _) | (with_reducible apply Below.drew) | (with_reducible apply below_alloc) | ((with_reducible refine Below.alloc ?_ ?_ _); rotate_left; focus (first | (simp; done) | (simp; omega) | omega)) | ((with_reducible refine Below.setCell ?_ ?_ _); rotate_left; focus (first | (simp; done) | (simp; omega) | omega)))) hb
  clear hb
  go_wp2_with fail
  refine Calls.mono (great17_any ?_ HK2.out) ?_
  · exact T.out.below (by repeat (first | (with_reducible exact Below.refl _ _) | (with_reducible exact Below.refl _ _) | (with_reducible apply Below.drew) | (with_reducible apply below_alloc) | ((with_reducible refine Below.alloc ?_ ?_ _); rotate_left; focus (first | (simp; done) | (simp; omega) | omega)) | ((with_reducible refine Below.setCell ?_ ?_ _); rotate_left; focus (first | (simp; done) | (simp; omega) | omega))))
  rintro e w2 ⟨⟨gr, rfl, _⟩, hb⟩
  replace HB : Hid (Below w.heap.size w _) := below_step (by repeat (first | (with_reducible exact HB.out) | (with_reducible exact Below.refl _ _) | (with_reducible apply Below.drew) | (with_reducible apply below_alloc) | ((with_reducible refine Below.alloc ?_ ?_ _); rotate_left; focus (first | (simp; done) | (simp; omega) | omega)) | ((with_reducible refine Below.setCell ?_ ?_ _); rotate_left; focus (first | (simp; done) | (simp; omega) | omega)))) hb
  clear a0 a1 a2 a3 az al
  replace HA : Hid (Blk _ (w.heap.size) _ _) := Blk.step (by repeat (first | (with_reducible exact HA.out) | ((with_reducible apply Blk.new); focus (first | rfl | (simp; done) | (simp; omega))) | (with_reducible apply Blk.drew) | (with_reducible apply Blk.alloc) | (with_reducible apply Blk.set_) | ((with_reducible apply Blk.far); rotate_left; focus (first | (simp; done) | (simp; omega) | omega)))) hb
  obtain ⟨a0, a1, a2, a3, az⟩ := cells4 HA.out
  have al := Blk.lt HA.out
  replace T : Hid (TopR _ _ _) := topR_step T.out (by repeat (first | (with_reducible exact Below.refl _ _) | (with_reducible exact Below.refl _ _) | (with_reducible apply Below.drew) | (with_reducible apply below_alloc) | ((with_reducible refine Below.alloc ?_ ?_ _); rotate_left; focus (first | (simp; done) | (simp; omega) | omega)) | ((with_reducible refine Below.setCell ?_ ?_ _); rotate_left; focus (first | (simp; done) | (simp; omega) | omega)))) hb
  clear hb
  cases gr
  rotate_left
  · go_wp2_with fail
    go_ret
    exact ⟨rfl, HB.out⟩
  by_cases hkl : (5000 : Int) < (k.size : Int)
  · go_wp2_with fail
    go_ret
    exact ⟨rfl, HB.out⟩
  by_cases hbl : (5000 : Int) < (b.size : Int)
  · go_wp2_with fail
    go_ret
    exact ⟨rfl, HB.out⟩
  obtain ⟨u, n, e, hu⟩ : ∃ u n e, addP t id k b = (u, n, e) := ⟨_, _, _, rfl⟩
  have HU := Lib.hid hu
  have hc := add_cases hu
  clear hu
  rcases hc with ⟨rfl, rfl, hc⟩ | ⟨⟨rfl, rfl, hut⟩, ⟨htm, hum⟩, _, hn, _⟩
  · rcases hc with rfl | rfl | rfl | rfl
    all_goals
      go_wp2_with fail
      refine Calls.mono (add_any id k b ?_ HK.out HU.out) ?_
      · exact T.out.below (by repeat (first | (with_reducible exact Below.refl _ _) | (with_reducible exact Below.refl _ _) | (with_reducible apply Below.drew) | (with_reducible apply below_alloc) | ((with_reducible refine Below.alloc ?_ ?_ _); rotate_left; focus (first | (simp; done) | (simp; omega) | omega)) | ((with_reducible refine Below.setCell ?_ ?_ _); rotate_left; focus (first | (simp; done) | (simp; omega) | omega))))
      rintro e w3 ⟨ad3, cp3, rfl, ow3, hb⟩
      replace HB : Hid (Below w.heap.size w _) := below_step (by repeat (first | (with_reducible exact HB.out) | (with_reducible exact Below.refl _ _) | (with_reducible apply Below.drew) | (with_reducible apply below_alloc) | ((with_reducible refine Below.alloc ?_ ?_ _); rotate_left; focus (first | (simp; done) | (simp; omega) | omega)) | ((with_reducible refine Below.setCell ?_ ?_ _); rotate_left; focus (first | (simp; done) | (simp; omega) | omega)))) hb
      have TA := Lib.hid (own_top ow3)
      clear hb ow3
      go_wp2_with fail
      refine Calls.mono (topSame_refl Top.zero ?_ (topR_zero _)) ?_
      · exact TA.out.below (by repeat (first | (with_reducible exact Below.refl _ _) | (with_reducible exact Below.refl _ _) | (with_reducible apply Below.drew) | (with_reducible apply below_alloc) | ((with_reducible refine Below.alloc ?_ ?_ _); rotate_left; focus (first | (simp; done) | (simp; omega) | omega)) | ((with_reducible refine Below.setCell ?_ ?_ _); rotate_left; focus (first | (simp; done) | (simp; omega) | omega))))
      rintro e w4 ⟨rfl, hb⟩
      replace HB : Hid (Below w.heap.size w _) := below_step (by repeat (first | (with_reducible exact HB.out) | (with_reducible exact Below.refl _ _) | (with_reducible apply Below.drew) | (with_reducible apply below_alloc) | ((with_reducible refine Below.alloc ?_ ?_ _); rotate_left; focus (first | (simp; done) | (simp; omega) | omega)) | ((with_reducible refine Below.setCell ?_ ?_ _); rotate_left; focus (first | (simp; done) | (simp; omega) | omega)))) hb
      clear hb
      go_wp2_with fail
      go_ret
      exact ⟨rfl, HB.out⟩
  · have HTM := Lib.hid htm
    have HUM := Lib.hid hum
    have HKU := Lib.hid (keys_of_may hum)
    have n0 : 0 ≤ t.next := htm.1.1
    have f1 := fetch_add_new htm (hut ▸ hum)
    rw [← hut] at f1
    have F1 := Lib.hid f1
    have HFO := Lib.hid (show o ≠ t.next → fetchP u o = fetchP t o from fun ho => by rw [hut]; exact fetch_add_old htm (hut ▸ hum) ho)
    have en : (u.next != t.next + 1) = false := by rw [hut]; simp [addT]
    have hN := neq_self ⟨t.next, id, k, b⟩
    simp only at hN
    have HN := Lib.hid hN
    clear hut htm hum f1 hN
    go_wp2_with fail
    refine Calls.mono (add_any id k b ?_ HK.out HU.out) ?_
    · exact T.out.below (by repeat (first | (with_reducible exact Below.refl _ _) | (with_reducible exact Below.refl _ _) | (with_reducible apply Below.drew) | (with_reducible apply below_alloc) | ((with_reducible refine Below.alloc ?_ ?_ _); rotate_left; focus (first | (simp; done) | (simp; omega) | omega)) | ((with_reducible refine Below.setCell ?_ ?_ _); rotate_left; focus (first | (simp; done) | (simp; omega) | omega))))
    rintro e w3 ⟨ad3, cp3, rfl, ow3, hb⟩
    replace HB : Hid (Below w.heap.size w _) := below_step (by repeat (first | (with_reducible exact HB.out) | (with_reducible exact Below.refl _ _) | (with_reducible apply Below.drew) | (with_reducible apply below_alloc) | ((with_reducible refine Below.alloc ?_ ?_ _); rotate_left; focus (first | (simp; done) | (simp; omega) | omega)) | ((with_reducible refine Below.setCell ?_ ?_ _); rotate_left; focus (first | (simp; done) | (simp; omega) | omega)))) hb
    clear a0 a1 a2 a3 az al
    replace HA : Hid (Blk _ (w.heap.size) _ _) := Blk.step (by repeat (first | (with_reducible exact HA.out) | ((with_reducible apply Blk.new); focus (first | rfl | (simp; done) | (simp; omega))) | (with_reducible apply Blk.drew) | (with_reducible apply Blk.alloc) | (with_reducible apply Blk.set_) | ((with_reducible apply Blk.far); rotate_left; focus (first | (simp; done) | (simp; omega) | omega)))) hb
    obtain ⟨a0, a1, a2, a3, az⟩ := cells4 HA.out
    have al := Blk.lt HA.out
    replace T : Hid (TopR _ _ _) := topR_step T.out (by repeat (first | (with_reducible exact Below.refl _ _) | (with_reducible exact Below.refl _ _) | (with_reducible apply Below.drew) | (with_reducible apply below_alloc) | ((with_reducible refine Below.alloc ?_ ?_ _); rotate_left; focus (first | (simp; done) | (simp; omega) | omega)) | ((with_reducible refine Below.setCell ?_ ?_ _); rotate_left; focus (first | (simp; done) | (simp; omega) | omega)))) hb
    have TA := Lib.hid (own_top ow3)
    clear hb ow3
    go_wp2_with fail
    refine Calls.mono (fetch_any t.next ?_ HKU.out F1.out) ?_
    · exact TA.out.below (by repeat (first | (with_reducible exact Below.refl _ _) | (with_reducible exact Below.refl _ _) | (with_reducible apply Below.drew) | (with_reducible apply below_alloc) | ((with_reducible refine Below.alloc ?_ ?_ _); rotate_left; focus (first | (simp; done) | (simp; omega) | omega)) | ((with_reducible refine Below.setCell ?_ ?_ _); rotate_left; focus (first | (simp; done) | (simp; omega) | omega))))
    rintro e w4 ⟨rfl, hb⟩
    replace HB : Hid (Below w.heap.size w _) := below_step (by repeat (first | (with_reducible exact HB.out) | (with_reducible exact Below.refl _ _) | (with_reducible apply Below.drew) | (with_reducible apply below_alloc) | ((with_reducible refine Below.alloc ?_ ?_ _); rotate_left; focus (first | (simp; done) | (simp; omega) | omega)) | ((with_reducible refine Below.setCell ?_ ?_ _); rotate_left; focus (first | (simp; done) | (simp; omega) | omega)))) hb
    clear a0 a1 a2 a3 az al
    replace HA : Hid (Blk _ (w.heap.size) _ _) := Blk.step (by repeat (first | (with_reducible exact HA.out) | ((with_reducible apply Blk.new); focus (first | rfl | (simp; done) | (simp; omega))) | (with_reducible apply Blk.drew) | (with_reducible apply Blk.alloc) | (with_reducible apply Blk.set_) | ((with_reducible apply Blk.far); rotate_left; focus (first | (simp; done) | (simp; omega) | omega)))) hb
    obtain ⟨a0, a1, a2, a3, az⟩ := cells4 HA.out
    have al := Blk.lt HA.out
    replace T : Hid (TopR _ _ _) := topR_step T.out (by repeat (first | (with_reducible exact Below.refl _ _) | (with_reducible exact Below.refl _ _) | (with_reducible apply Below.drew) | (with_reducible apply below_alloc) | ((with_reducible refine Below.alloc ?_ ?_ _); rotate_left; focus (first | (simp; done) | (simp; omega) | omega)) | ((with_reducible refine Below.setCell ?_ ?_ _); rotate_left; focus (first | (simp; done) | (simp; omega) | omega)))) hb
    replace TA : Hid (TopR _ _ _) := topR_step TA.out (by repeat (first | (with_reducible exact Below.refl _ _) | (with_reducible exact Below.refl _ _) | (with_reducible apply Below.drew) | (with_reducible apply below_alloc) | ((with_reducible refine Below.alloc ?_ ?_ _); rotate_left; focus (first | (simp; done) | (simp; omega) | omega)) | ((with_reducible refine Below.setCell ?_ ?_ _); rotate_left; focus (first | (simp; done) | (simp; omega) | omega)))) hb
    have U : Blk _ (w3.heap.size) _ _ := Blk.step (by repeat (first | ((with_reducible apply Blk.new); focus (first | rfl | (simp; done) | (simp; omega))) | (with_reducible apply Blk.drew) | (with_reducible apply Blk.alloc) | (with_reducible apply Blk.set_) | ((with_reducible apply Blk.far); rotate_left; focus (first | (simp; done) | (simp; omega) | omega)))) hb
    obtain ⟨u0, u1, u2, u3, uz⟩ := cells4 U
    have ul := Blk.lt U
    have HU := Lib.hid U
    clear U
    have hN := HN.out
    clear hb
    go_wp2_with fail
    refine Calls.mono (check_yes ?_ HKU.out HUM.out) ?_
    · exact TA.out.below (by repeat (first | (with_reducible exact Below.refl _ _) | (with_reducible exact Below.refl _ _) | (with_reducible apply Below.drew) | (with_reducible apply below_alloc) | ((with_reducible refine Below.alloc ?_ ?_ _); rotate_left; focus (first | (simp; done) | (simp; omega) | omega)) | ((with_reducible refine Below.setCell ?_ ?_ _); rotate_left; focus (first | (simp; done) | (simp; omega) | omega))))
    rintro e w5 ⟨rfl, hb⟩
    replace HB : Hid (Below w.heap.size w _) := below_step (by repeat (first | (with_reducible exact HB.out) | (with_reducible exact Below.refl _ _) | (with_reducible apply Below.drew) | (with_reducible apply below_alloc) | ((with_reducible refine Below.alloc ?_ ?_ _); rotate_left; focus (first | (simp; done) | (simp; omega) | omega)) | ((with_reducible refine Below.setCell ?_ ?_ _); rotate_left; focus (first | (simp; done) | (simp; omega) | omega)))) hb
    clear a0 a1 a2 a3 az al
    replace HA : Hid (Blk _ (w.heap.size) _ _) := Blk.step (by repeat (first | (with_reducible exact HA.out) | ((with_reducible apply Blk.new); focus (first | rfl | (simp; done) | (simp; omega))) | (with_reducible apply Blk.drew) | (with_reducible apply Blk.alloc) | (with_reducible apply Blk.set_) | ((with_reducible apply Blk.far); rotate_left; focus (first | (simp; done) | (simp; omega) | omega)))) hb
    obtain ⟨a0, a1, a2, a3, az⟩ := cells4 HA.out
    have al := Blk.lt HA.out
    clear u0 u1 u2 u3 uz ul
    replace HU : Hid (Blk _ (w3.heap.size) _ _) := Blk.step (by repeat (first | (with_reducible exact HU.out) | ((with_reducible apply Blk.new); focus (first | rfl | (simp; done) | (simp; omega))) | (with_reducible apply Blk.drew) | (with_reducible apply Blk.alloc) | (with_reducible apply Blk.set_) | ((with_reducible apply Blk.far); rotate_left; focus (first | (simp; done) | (simp; omega) | omega)))) hb
    obtain ⟨u0, u1, u2, u3, uz⟩ := cells4 HU.out
    have ul := Blk.lt HU.out
    replace T : Hid (TopR _ _ _) := topR_step T.out (by repeat (first | (with_reducible exact Below.refl _ _) | (with_reducible exact Below.refl _ _) | (with_reducible apply Below.drew) | (with_reducible apply below_alloc) | ((with_reducible refine Below.alloc ?_ ?_ _); rotate_left; focus (first | (simp; done) | (simp; omega) | omega)) | ((with_reducible refine Below.setCell ?_ ?_ _); rotate_left; focus (first | (simp; done) | (simp; omega) | omega)))) hb
    replace TA : Hid (TopR _ _ _) := topR_step TA.out (by repeat (first | (with_reducible exact Below.refl _ _) | (with_reducible exact Below.refl _ _) | (with_reducible apply Below.drew) | (with_reducible apply below_alloc) | ((with_reducible refine Below.alloc ?_ ?_ _); rotate_left; focus (first | (simp; done) | (simp; omega) | omega)) | ((with_reducible refine Below.setCell ?_ ?_ _); rotate_left; focus (first | (simp; done) | (simp; omega) | omega)))) hb
    clear hb hN
    obtain ⟨y, g, hf⟩ : ∃ y g, fetchP t o = (y, g) := ⟨_, _, rfl⟩
    have HF := Lib.hid hf
    have hd := keeps HTM.out hf
    obtain ⟨z, h, hz⟩ : ∃ z h, fetchP u o = (z, h) := ⟨_, _, rfl⟩
    have HZ := Lib.hid hz
    have hyz : o ≠ t.next → z = y ∧ h = g := fun ho => by
      have := HFO.out ho
      rw [hz, hf] at this
      cases this
      exact ⟨rfl, rfl⟩
    clear hf hz
    by_cases ho : o = t.next
    · have eo : (o != t.next) = false := by simp [ho]
      have ho' : t.next ≤ o := by omega
      clear ho hyz hd
      have d1 : 0 < t.base ∨ t.base ≤ 0 := by omega
      have d2 : 0 < t.mark ∨ t.mark ≤ 0 := by omega
      have d3 : 0 ≤ o := by omega
      go_wp2_with fail
      refine Calls.mono (fetch_any o ?_ HK.out HF.out) ?_
      · exact T.out.below (by repeat (first | (with_reducible exact Below.refl _ _) | (with_reducible exact Below.refl _ _) | (with_reducible apply Below.drew) | (with_reducible apply below_alloc) | ((with_reducible refine Below.alloc ?_ ?_ _); rotate_left; focus (first | (simp; done) | (simp; omega) | omega)) | ((with_reducible refine Below.setCell ?_ ?_ _); rotate_left; focus (first | (simp; done) | (simp; omega) | omega))))
      rintro e w6 ⟨rfl, hb⟩
      replace HB : Hid (Below w.heap.size w _) := below_step (by repeat (first | (with_reducible exact HB.out) | (with_reducible exact Below.refl _ _) | (with_reducible apply Below.drew) | (with_reducible apply below_alloc) | ((with_reducible refine Below.alloc ?_ ?_ _); rotate_left; focus (first | (simp; done) | (simp; omega) | omega)) | ((with_reducible refine Below.setCell ?_ ?_ _); rotate_left; focus (first | (simp; done) | (simp; omega) | omega)))) hb
      clear a0 a1 a2 a3 az al
      replace HA : Hid (Blk _ (w.heap.size) _ _) := Blk.step (by repeat (first | (with_reducible exact HA.out) | ((with_reducible apply Blk.new); focus (first | rfl | (simp; done) | (simp; omega))) | (with_reducible apply Blk.drew) | (with_reducible apply Blk.alloc) | (with_reducible apply Blk.set_) | ((with_reducible apply Blk.far); rotate_left; focus (first | (simp; done) | (simp; omega) | omega)))) hb
      obtain ⟨a0, a1, a2, a3, az⟩ := cells4 HA.out
      have al := Blk.lt HA.out
      clear u0 u1 u2 u3 uz ul
      replace HU : Hid (Blk _ (w3.heap.size) _ _) := Blk.step (by repeat (first | (with_reducible exact HU.out) | ((with_reducible apply Blk.new); focus (first | rfl | (simp; done) | (simp; omega))) | (with_reducible apply Blk.drew) | (with_reducible apply Blk.alloc) | (with_reducible apply Blk.set_) | ((with_reducible apply Blk.far); rotate_left; focus (first | (simp; done) | (simp; omega) | omega)))) hb
      obtain ⟨u0, u1, u2, u3, uz⟩ := cells4 HU.out
      have ul := Blk.lt HU.out
      replace TA : Hid (TopR _ _ _) := topR_step TA.out (by repeat (first | (with_reducible exact Below.refl _ _) | (with_reducible exact Below.refl _ _) | (with_reducible apply Below.drew) | (with_reducible apply below_alloc) | ((with_reducible refine Below.alloc ?_ ?_ _); rotate_left; focus (first | (simp; done) | (simp; omega) | omega)) | ((with_reducible refine Below.setCell ?_ ?_ _); rotate_left; focus (first | (simp; done) | (simp; omega) | omega)))) hb
      clear hb
      go_wp2_with fail
      refine Calls.mono (fetch_any o ?_ HKU.out HZ.out) ?_
      · exact TA.out.below (by repeat (first | (with_reducible exact Below.refl _ _) | (with_reducible exact Below.refl _ _) | (with_reducible apply Below.drew) | (with_reducible apply below_alloc) | ((with_reducible refine Below.alloc ?_ ?_ _); rotate_left; focus (first | (simp; done) | (simp; omega) | omega)) | ((with_reducible refine Below.setCell ?_ ?_ _); rotate_left; focus (first | (simp; done) | (simp; omega) | omega))))
      rintro e w7 ⟨rfl, hb⟩
      replace HB : Hid (Below w.heap.size w _) := below_step (by repeat (first | (with_reducible exact HB.out) | (with_reducible exact Below.refl _ _) | (with_reducible apply Below.drew) | (with_reducible apply below_alloc) | ((with_reducible refine Below.alloc ?_ ?_ _); rotate_left; focus (first | (simp; done) | (simp; omega) | omega)) | ((with_reducible refine Below.setCell ?_ ?_ _); rotate_left; focus (first | (simp; done) | (simp; omega) | omega)))) hb
      clear a0 a1 a2 a3 az al
      replace HA : Hid (Blk _ (w.heap.size) _ _) := Blk.step (by repeat (first | (with_reducible exact HA.out) | ((with_reducible apply Blk.new); focus (first | rfl | (simp; done) | (simp; omega))) | (with_reducible apply Blk.drew) | (with_reducible apply Blk.alloc) | (with_reducible apply Blk.set_) | ((with_reducible apply Blk.far); rotate_left; focus (first | (simp; done) | (simp; omega) | omega)))) hb
      obtain ⟨a0, a1, a2, a3, az⟩ := cells4 HA.out
      have al := Blk.lt HA.out
      have Y : Blk _ (w6.heap.size) _ _ := Blk.step (by repeat (first | ((with_reducible apply Blk.new); focus (first | rfl | (simp; done) | (simp; omega))) | (with_reducible apply Blk.drew) | (with_reducible apply Blk.alloc) | (with_reducible apply Blk.set_) | ((with_reducible apply Blk.far); rotate_left; focus (first | (simp; done) | (simp; omega) | omega)))) hb
      obtain ⟨y0, y1, y2, y3, yz⟩ := cells4 Y
      have yl := Blk.lt Y
      have HY := Lib.hid Y
      clear Y
      clear hb
      rcases d1 with d1 | d1 <;> rcases d2 with d2 | d2
      all_goals
        go_wp2_with fail
        go_ret
        refine ⟨rfl, ?_⟩
        repeat (first | (with_reducible exact HB.out) | (with_reducible exact Below.refl _ _) | (with_reducible apply Below.drew) | (with_reducible apply below_alloc) | ((with_reducible refine Below.alloc ?_ ?_ _); rotate_left; focus (first | (simp; done) | (simp; omega) | omega)) | ((with_reducible refine Below.setCell ?_ ?_ _); rotate_left; focus (first | (simp; done) | (simp; omega) | omega)))
    · have eo : (o != t.next) = true := by simpa using ho
      obtain ⟨rfl, rfl⟩ := hyz ho
      have hNz := Lib.hid (neq_self z)
      clear ho
      go_wp2_with fail
      refine Calls.mono (fetch_any o ?_ HK.out HF.out) ?_
      · exact T.out.below (by repeat (first | (with_reducible exact Below.refl _ _) | (with_reducible exact Below.refl _ _) | (with_reducible apply Below.drew) | (with_reducible apply below_alloc) | ((with_reducible refine Below.alloc ?_ ?_ _); rotate_left; focus (first | (simp; done) | (simp; omega) | omega)) | ((with_reducible refine Below.setCell ?_ ?_ _); rotate_left; focus (first | (simp; done) | (simp; omega) | omega))))
      rintro e w6 ⟨rfl, hb⟩
      replace HB : Hid (Below w.heap.size w _) := below_step (by repeat (first | (with_reducible exact HB.out) | (with_reducible exact Below.refl _ _) | (with_reducible apply Below.drew) | (with_reducible apply below_alloc) | ((with_reducible refine Below.alloc ?_ ?_ _); rotate_left; focus (first | (simp; done) | (simp; omega) | omega)) | ((with_reducible refine Below.setCell ?_ ?_ _); rotate_left; focus (first | (simp; done) | (simp; omega) | omega)))) hb
      clear a0 a1 a2 a3 az al
      replace HA : Hid (Blk _ (w.heap.size) _ _) := Blk.step (by repeat (first | (with_reducible exact HA.out) | ((with_reducible apply Blk.new); focus (first | rfl | (simp; done) | (simp; omega))) | (with_reducible apply Blk.drew) | (with_reducible apply Blk.alloc) | (with_reducible apply Blk.set_) | ((with_reducible apply Blk.far); rotate_left; focus (first | (simp; done) | (simp; omega) | omega)))) hb
      obtain ⟨a0, a1, a2, a3, az⟩ := cells4 HA.out
      have al := Blk.lt HA.out
      clear u0 u1 u2 u3 uz ul
      replace HU : Hid (Blk _ (w3.heap.size) _ _) := Blk.step (by repeat (first | (with_reducible exact HU.out) | ((with_reducible apply Blk.new); focus (first | rfl | (simp; done) | (simp; omega))) | (with_reducible apply Blk.drew) | (with_reducible apply Blk.alloc) | (with_reducible apply Blk.set_) | ((with_reducible apply Blk.far); rotate_left; focus (first | (simp; done) | (simp; omega) | omega)))) hb
      obtain ⟨u0, u1, u2, u3, uz⟩ := cells4 HU.out
      have ul := Blk.lt HU.out
      replace TA : Hid (TopR _ _ _) := topR_step TA.out (by repeat (first | (with_reducible exact Below.refl _ _) | (with_reducible exact Below.refl _ _) | (with_reducible apply Below.drew) | (with_reducible apply below_alloc) | ((with_reducible refine Below.alloc ?_ ?_ _); rotate_left; focus (first | (simp; done) | (simp; omega) | omega)) | ((with_reducible refine Below.setCell ?_ ?_ _); rotate_left; focus (first | (simp; done) | (simp; omega) | omega)))) hb
      clear hb
      go_wp2_with fail
      refine Calls.mono (fetch_any o ?_ HKU.out HZ.out) ?_
      · exact TA.out.below (by repeat (first | (with_reducible exact Below.refl _ _) | (with_reducible exact Below.refl _ _) | (with_reducible apply Below.drew) | (with_reducible apply below_alloc) | ((with_reducible refine Below.alloc ?_ ?_ _); rotate_left; focus (first | (simp; done) | (simp; omega) | omega)) | ((with_reducible refine Below.setCell ?_ ?_ _); rotate_left; focus (first | (simp; done) | (simp; omega) | omega))))
      rintro e w7 ⟨rfl, hb⟩
      replace HB : Hid (Below w.heap.size w _) := below_step (by repeat (first | (with_reducible exact HB.out) | (with_reducible exact Below.refl _ _) | (with_reducible apply Below.drew) | (with_reducible apply below_alloc) | ((with_reducible refine Below.alloc ?_ ?_ _); rotate_left; focus (first | (simp; done) | (simp; omega) | omega)) | ((with_reducible refine Below.setCell ?_ ?_ _); rotate_left; focus (first | (simp; done) | (simp; omega) | omega)))) hb
      clear a0 a1 a2 a3 az al
      replace HA : Hid (Blk _ (w.heap.size) _ _) := Blk.step (by repeat (first | (with_reducible exact HA.out) | ((with_reducible apply Blk.new); focus (first | rfl | (simp; done) | (simp; omega))) | (with_reducible apply Blk.drew) | (with_reducible apply Blk.alloc) | (with_reducible apply Blk.set_) | ((with_reducible apply Blk.far); rotate_left; focus (first | (simp; done) | (simp; omega) | omega)))) hb
      obtain ⟨a0, a1, a2, a3, az⟩ := cells4 HA.out
      have al := Blk.lt HA.out
      have Y : Blk _ (w6.heap.size) _ _ := Blk.step (by repeat (first | ((with_reducible apply Blk.new); focus (first | rfl | (simp; done) | (simp; omega))) | (with_reducible apply Blk.drew) | (with_reducible apply Blk.alloc) | (with_reducible apply Blk.set_) | ((with_reducible apply Blk.far); rotate_left; focus (first | (simp; done) | (simp; omega) | omega)))) hb
      obtain ⟨y0, y1, y2, y3, yz⟩ := cells4 Y
      have yl := Blk.lt Y
      have HY := Lib.hid Y
      clear Y
      have hNN := hNz.out
      clear hb HF HZ
      rcases hd with d | ⟨d, d' | ⟨d', d1 | ⟨d1, d2 | ⟨d2, rfl, hzo⟩⟩⟩⟩
      rotate_right
      · have ez : (z.off == o) = true := by simpa using hzo
        clear hzo
        go_wp2_with fail
        go_ret
        refine ⟨rfl, ?_⟩
        repeat (first | (with_reducible exact HB.out) | (with_reducible exact Below.refl _ _) | (with_reducible apply Below.drew) | (with_reducible apply below_alloc) | ((with_reducible refine Below.alloc ?_ ?_ _); rotate_left; focus (first | (simp; done) | (simp; omega) | omega)) | ((with_reducible refine Below.setCell ?_ ?_ _); rotate_left; focus (first | (simp; done) | (simp; omega) | omega)))
      all_goals
        go_wp2_with fail
        go_ret
        refine ⟨rfl, ?_⟩
        repeat (first | (with_reducible exact HB.out) | (with_reducible exact Below.refl _ _) | (with_reducible apply Below.drew) | (with_reducible apply below_alloc) | ((with_reducible refine Below.alloc ?_ ?_ _); rotate_left; focus (first | (simp; done) | (simp; omega) | omega)) | ((with_reducible refine Below.setCell ?_ ?_ _); rotate_left; focus (first | (simp; done) | (simp; omega) | omega)))

theorem own : ownKnob Try.prog.godebug = none := by kernel_rfl

set_option maxRecDepth 100000 in
set_option linter.unusedVariables false in
theorem lifted (os : Os) (started : os.Started) (H : Type) (enc : TypeId × Value → H) :
    ReturnsInHanded {} Try.checked os 10 .any (Rows.topicKeepsSpec.pre6 enc Try.prog Try.f10 Rows.topicKeepsRow.domain false) (Rows.topicKeepsSpec.post enc Try.prog Try.f10 false true false false) := by
  refine returnsInHanded_of_change_sized (C := Try.checked) own started (by kernel_rfl) Try.func10
    (ChangeSpec.witness6 (enc := enc) (C := Try.checked) false ⟨#[], #[.agg #[.int .i64 0, .int .i64 0, .int .i64 0, .slice none 0 0], .int .i64 0, .string ByteArray.empty, .string ByteArray.empty, .int .i64 0], []⟩ 8 (by kernel_rfl) (by kernel_rfl) (by kernel_rfl) (by kernel_rfl)) ?_
  intro W base args ds gs before hval0 hW hcnd hsz0 hholds
  have hsz : (DataW.weightsEach Try.prog (Try.f10.params.toList ++ Rows.topicKeepsSpec.plain.varTypes Try.prog) (ds ++ gs)).all (· ≤ reachBytes) = true := hsz0
  have hval : ∀ (j : Nat) t v, Try.f10.params[j]? = some t → args[j]? = some v → Value.okWide Try.prog W .any base t v := hval0
  have hW' := hW
  obtain ⟨p, q, hA0, hV, _, hfz, _⟩ := hW
  have hA : DataW.TrodAll enc Try.prog W 0 (fun _ => true) true Try.f10.params.toList args.toList ds p := hA0
  rw [Try.params10] at hA hval hsz
  obtain ⟨v0, vs0, d0, ds0, p0, q0, hargs, rfl, rfl, h0, r0⟩ := trodAll_cons hA
  obtain ⟨v1, vs1, d1, ds1, p1, q1, rfl, rfl, rfl, h1, r1⟩ := trodAll_cons r0
  obtain ⟨v2, vs2, d2, ds2, p2, q2, rfl, rfl, rfl, h2, r2⟩ := trodAll_cons r1
  obtain ⟨v3, vs3, d3, ds3, p3, q3, rfl, rfl, rfl, h3, r3⟩ := trodAll_cons r2
  obtain ⟨v4, vs4, d4, ds4, p4, q4, rfl, rfl, rfl, h4, r4⟩ := trodAll_cons r3
  obtain ⟨rfl, rfl, rfl⟩ := trodAll_nil r4
  obtain rfl : args = #[v0, v1, v2, v3, v4] := by cases args; simp_all
  obtain ⟨rfl, _⟩ := trodVars_none hV
  have hwt : ∀ (j : Nat) (t : TypeId) (d : DataW H), (_ : List TypeId)[j]? = some t → (_ : List (DataW H))[j]? = some d → ∀ n ∈ d.weights Try.prog t, n ≤ reachBytes := fun j t d ht hd n hn => by simpa using List.all_eq_true.1 hsz n (DataW.weights_mem_each ht hd n hn)
  obtain ⟨t0, R0⟩ := open_topic (hval 0 _ v0 rfl rfl) h0 (hwt 0 _ _ rfl rfl) ⟨Try.underlying24, cells_top, Try.underlying22, cells_ents, Try.underlying38, cells_ent, Try.underlying3, cells_int, Try.underlying9, cells_str, ⟨rfl, rfl⟩, ⟨rfl, rfl⟩, ⟨rfl, rfl⟩, ⟨rfl, rfl⟩, ⟨rfl, rfl⟩, ⟨rfl, rfl⟩, ⟨rfl, rfl⟩, ⟨rfl, rfl⟩⟩
  obtain ⟨a1, rfl, rfl, _, w1⟩ := open_int Try.underlying3 (hval 1 _ v1 rfl rfl) h1
  obtain ⟨s2, rfl, rfl, _, z2⟩ := open_string Try.underlying9 (hval 2 _ v2 rfl rfl) h2
  obtain ⟨s3, rfl, rfl, _, z3⟩ := open_string Try.underlying9 (hval 3 _ v3 rfl rfl) h3
  obtain ⟨a4, rfl, rfl, _, w4⟩ := open_int Try.underlying3 (hval 4 _ v4 rfl rfl) h4
  refine (walk a1 s2 s3 a4 R0.1 R0.2.1).mono fun e W' ⟨he, hb⟩ => ?_
  subst he
  exact ⟨_, rfl, law_post hW' rfl rfl rfl Try.underlying4 (by kernel_rfl) (by kernel_rfl) hb⟩

theorem over : Rows.topicKeepsRow.holds Try.pinned (OpenSpec.ofChange Rows.topicKeepsSpec) :=
  OpenClaim.holds_of_wide 10 Try.f10 rfl rfl rfl rfl rfl rfl rfl ⟨rfl, rfl, rfl, rfl, rfl⟩ rfl rfl rfl rfl rfl (by kernel_rfl) Try.func10 (by kernel_rfl)
    (of_decide_eq_true (by kernel_rfl)) (by unfold Func.isWrapper; rw [if_neg (of_decide_eq_false (by kernel_rfl))]; exact ⟨rfl, rfl⟩)
    (fun os started H enc _ => lifted os started H enc)

theorem proved : Rows.TopicKeepsSaid := over
#print axioms proved

end Go.Proofs.Ytolgkadoplalnaa.TopicKeeps
