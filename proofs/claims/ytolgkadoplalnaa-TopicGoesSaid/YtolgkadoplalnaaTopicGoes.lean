/-
  The given statement TopicGoes: whether a topic may be, one with a message more, what stands at an offset, its copy, and whether two are the same, are the document's. No condition.
-/
import Derived.Test.YtolgkadoplalnaaRows
import Derived.Test.YtolgkadoplalnaaChecked
import Derived.Test.YtolgkadoplalnaaLaw
import Derived.Test.YtolgkadoplalnaaTwo17
import Derived.Test.YtolgkadoplalnaaGreat17
import Derived.Test.YtolgkadoplalnaaRefFetch17
import Derived.Test.YtolgkadoplalnaaRefAdd17
import Derived.Test.YtolgkadoplalnaaAddLaw
import Derived.Test.YtolgkadoplalnaaOver
import Derived.KernelRfl
import Derived.ChangeMaps5
namespace Go.Proofs.Ytolgkadoplalnaa.TopicGoes
open Go.RowKit Go.ChangeShapes Go.WideShapes Go.ChangeAt Go.ChangeMaps

theorem eq_self (x : Ent) (w : World) : (binOp .eql 38 (.agg #[.int .i64 x.off, .int .i64 x.id, .string x.key, .string x.body]) (.agg #[.int .i64 x.off, .int .i64 x.id, .string x.key, .string x.body])).run Try.prog w = .ok (.bool true) w := by
  have := ent_eql x x w
  rwa [(eqEnt_iff x x).2 rfl] at this
theorem addP_len {t u : Top} {id n e : Int} {k b : ByteArray} (h : addP t id k b = (u, n, e)) : u.ents.length ≤ 200 := by
  rcases add_cases h with ⟨rfl, _⟩ | ⟨⟨_, _, rfl⟩, _, _, _, h4⟩
  · exact Nat.zero_le _
  · show (t.ents ++ [_]).length ≤ 200
    simp
    omega

set_option maxHeartbeats 8000000 in
set_option maxRecDepth 100000 in
theorem walk {v v' : Value} {t o : Top} {w : World} (id : Int) (k b : ByteArray) (at_ : Int) (h : TopR w v t) (ok : topOk t) (h' : TopR w v' o) (ok' : topOk o) : Calls Try.prog 9 #[v, v', .int .i64 id, .string k, .string b, .int .i64 at_] w (LawEnd w) := by
  have T := Lib.hid h
  have TQ := Lib.hid h'
  have T0 := Lib.hid h
  have HKT := Lib.hid (top_keys ok)
  have HK2 := Lib.hid (top_sizes ok)
  have HKO := Lib.hid (top_sizes ok')
  obtain ⟨a, cap, rfl, _⟩ := h
  obtain ⟨a', cap', rfl, _⟩ := h'
  clear ok ok'
  obtain ⟨u, n, e, hu⟩ : ∃ u n e, addP t id k b = (u, n, e) := ⟨_, _, _, rfl⟩
  obtain ⟨x, g, hx⟩ : ∃ x g, fetchP t at_ = (x, g) := ⟨_, _, rfl⟩
  obtain ⟨c, hc⟩ : ∃ c : Int, c = if t.may then 0 else 8 := ⟨_, rfl⟩
  have HADD := Lib.hid hu
  have HFET := Lib.hid hx
  have HCHK := Lib.hid hc
  obtain ⟨qs, hqs⟩ : ∃ qs, qs = sameT t o := ⟨_, rfl⟩
  have HQS := Lib.hid hqs
  have HCH2 := Lib.hid (show (t.may ∧ c = 0) ∨ (¬ t.may ∧ c = 8) by
    by_cases hm : t.may
    · exact Or.inl ⟨hm, by rw [hc, if_pos hm]⟩
    · exact Or.inr ⟨hm, by rw [hc, if_neg hm]⟩)
  have hG := ent_eqGuard
  have hE := eq_self x
  clear hu hx hc hqs
  go_enter Try.func9, Try.ntmps9
  go_wp2_with fail
  refine Calls.mono (great17_any ?_ HK2.out) ?_
  · exact T.out.below (by repeat (first | (with_reducible exact Below.refl _ _) | (with_reducible exact Below.refl _ _) | (with_reducible apply Below.drew) | (with_reducible apply below_alloc) | ((with_reducible refine Below.alloc ?_ ?_ _); rotate_left; focus (first | (simp; done) | (simp; omega) | omega)) | ((with_reducible refine Below.setCell ?_ ?_ _); rotate_left; focus (first | (simp; done) | (simp; omega) | omega))))
  rintro e w1 ⟨⟨gr, rfl, hgr⟩, hb⟩
  have HB : Hid (Below w.heap.size w _) := below_step (by repeat (first | (with_reducible exact Below.refl _ _) | (with_reducible exact Below.refl _ _) | (with_reducible apply Below.drew) | (with_reducible apply below_alloc) | ((with_reducible refine Below.alloc ?_ ?_ _); rotate_left; focus (first | (simp; done) | (simp; omega) | omega)) | ((with_reducible refine Below.setCell ?_ ?_ _); rotate_left; focus (first | (simp; done) | (simp; omega) | omega)))) hb
  have A : Blk _ (w.heap.size) _ _ := Blk.step (by repeat (first | ((with_reducible apply Blk.new); focus (first | rfl | (simp; done) | (simp; omega))) | (with_reducible apply Blk.drew) | (with_reducible apply Blk.alloc) | (with_reducible apply Blk.set_) | ((with_reducible apply Blk.far); rotate_left; focus (first | (simp; done) | (simp; omega) | omega)))) hb
  obtain ⟨a0, a1, a2, a3, az⟩ := cells4 A
  have al := Blk.lt A
  have HA := Lib.hid A
  clear A
  have Q : Blk _ (w.heap.size + 1) _ _ := Blk.step (by repeat (first | ((with_reducible apply Blk.new); focus (first | rfl | (simp; done) | (simp; omega))) | (with_reducible apply Blk.drew) | (with_reducible apply Blk.alloc) | (with_reducible apply Blk.set_) | ((with_reducible apply Blk.far); rotate_left; focus (first | (simp; done) | (simp; omega) | omega)))) hb
  obtain ⟨q0, q1, q2, q3, qz⟩ := cells4 Q
  have ql := Blk.lt Q
  have HQ := Lib.hid Q
  clear Q
  replace T : Hid (TopR _ _ _) := topR_step T.out (by repeat (first | (with_reducible exact Below.refl _ _) | (with_reducible exact Below.refl _ _) | (with_reducible apply Below.drew) | (with_reducible apply below_alloc) | ((with_reducible refine Below.alloc ?_ ?_ _); rotate_left; focus (first | (simp; done) | (simp; omega) | omega)) | ((with_reducible refine Below.setCell ?_ ?_ _); rotate_left; focus (first | (simp; done) | (simp; omega) | omega)))) hb
  replace TQ : Hid (TopR _ _ _) := topR_step TQ.out (by repeat (first | (with_reducible exact Below.refl _ _) | (with_reducible exact Below.refl _ _) | (with_reducible apply Below.drew) | (with_reducible apply below_alloc) | ((with_reducible refine Below.alloc ?_ ?_ _); rotate_left; focus (first | (simp; done) | (simp; omega) | omega)) | ((with_reducible refine Below.setCell ?_ ?_ _); rotate_left; focus (first | (simp; done) | (simp; omega) | omega)))) hb
  have HLT := Lib.hid hgr
  clear hb hgr
  cases gr
  rotate_left
  · go_wp2_with fail
    go_ret
    exact ⟨rfl, HB.out⟩
  have HL2 := Lib.hid (show t.ents.length ≤ 1000000 by have := HLT.out rfl; omega)
  have HL3 := Lib.hid (show t.ents.length ≤ 1000 from HLT.out rfl)
  go_wp2_with fail
  refine Calls.mono (great17_any ?_ HKO.out) ?_
  · exact TQ.out.below (by repeat (first | (with_reducible exact Below.refl _ _) | (with_reducible exact Below.refl _ _) | (with_reducible apply Below.drew) | (with_reducible apply below_alloc) | ((with_reducible refine Below.alloc ?_ ?_ _); rotate_left; focus (first | (simp; done) | (simp; omega) | omega)) | ((with_reducible refine Below.setCell ?_ ?_ _); rotate_left; focus (first | (simp; done) | (simp; omega) | omega))))
  rintro e w2 ⟨⟨gr, rfl, _⟩, hb⟩
  replace HB : Hid (Below w.heap.size w _) := below_step (by repeat (first | (with_reducible exact HB.out) | (with_reducible exact Below.refl _ _) | (with_reducible apply Below.drew) | (with_reducible apply below_alloc) | ((with_reducible refine Below.alloc ?_ ?_ _); rotate_left; focus (first | (simp; done) | (simp; omega) | omega)) | ((with_reducible refine Below.setCell ?_ ?_ _); rotate_left; focus (first | (simp; done) | (simp; omega) | omega)))) hb
  clear a0 a1 a2 a3 az al
  replace HA : Hid (Blk _ (w.heap.size) _ _) := Blk.step (by repeat (first | (with_reducible exact HA.out) | ((with_reducible apply Blk.new); focus (first | rfl | (simp; done) | (simp; omega))) | (with_reducible apply Blk.drew) | (with_reducible apply Blk.alloc) | (with_reducible apply Blk.set_) | ((with_reducible apply Blk.far); rotate_left; focus (first | (simp; done) | (simp; omega) | omega)))) hb
  obtain ⟨a0, a1, a2, a3, az⟩ := cells4 HA.out
  have al := Blk.lt HA.out
  clear q0 q1 q2 q3 qz ql
  replace HQ : Hid (Blk _ (w.heap.size + 1) _ _) := Blk.step (by repeat (first | (with_reducible exact HQ.out) | ((with_reducible apply Blk.new); focus (first | rfl | (simp; done) | (simp; omega))) | (with_reducible apply Blk.drew) | (with_reducible apply Blk.alloc) | (with_reducible apply Blk.set_) | ((with_reducible apply Blk.far); rotate_left; focus (first | (simp; done) | (simp; omega) | omega)))) hb
  obtain ⟨q0, q1, q2, q3, qz⟩ := cells4 HQ.out
  have ql := Blk.lt HQ.out
  replace T : Hid (TopR _ _ _) := topR_step T.out (by repeat (first | (with_reducible exact Below.refl _ _) | (with_reducible exact Below.refl _ _) | (with_reducible apply Below.drew) | (with_reducible apply below_alloc) | ((with_reducible refine Below.alloc ?_ ?_ _); rotate_left; focus (first | (simp; done) | (simp; omega) | omega)) | ((with_reducible refine Below.setCell ?_ ?_ _); rotate_left; focus (first | (simp; done) | (simp; omega) | omega)))) hb
  replace TQ : Hid (TopR _ _ _) := topR_step TQ.out (by repeat (first | (with_reducible exact Below.refl _ _) | (with_reducible exact Below.refl _ _) | (with_reducible apply Below.drew) | (with_reducible apply below_alloc) | ((with_reducible refine Below.alloc ?_ ?_ _); rotate_left; focus (first | (simp; done) | (simp; omega) | omega)) | ((with_reducible refine Below.setCell ?_ ?_ _); rotate_left; focus (first | (simp; done) | (simp; omega) | omega)))) hb
  clear hb
  cases gr
  rotate_left
  · go_wp2_with fail
    go_ret
    exact ⟨rfl, HB.out⟩
  by_cases hkl : (5000 : Int) < (k.size : Int)
  · go_wp2_with fail
    go_ret
    exact ⟨rfl, HB.out⟩
  by_cases hbl : (5000 : Int) < (b.size : Int)
  · go_wp2_with fail
    go_ret
    exact ⟨rfl, HB.out⟩
  go_wp2_with fail
  refine Calls.mono (refTwin17_any ?_ HL2.out) ?_
  · exact T.out.below (by repeat (first | (with_reducible exact Below.refl _ _) | (with_reducible exact Below.refl _ _) | (with_reducible apply Below.drew) | (with_reducible apply below_alloc) | ((with_reducible refine Below.alloc ?_ ?_ _); rotate_left; focus (first | (simp; done) | (simp; omega) | omega)) | ((with_reducible refine Below.setCell ?_ ?_ _); rotate_left; focus (first | (simp; done) | (simp; omega) | omega))))
  rintro e w3 ⟨adr3, cap3, rfl, ow3, hb⟩
  replace HB : Hid (Below w.heap.size w _) := below_step (by repeat (first | (with_reducible exact HB.out) | (with_reducible exact Below.refl _ _) | (with_reducible apply Below.drew) | (with_reducible apply below_alloc) | ((with_reducible refine Below.alloc ?_ ?_ _); rotate_left; focus (first | (simp; done) | (simp; omega) | omega)) | ((with_reducible refine Below.setCell ?_ ?_ _); rotate_left; focus (first | (simp; done) | (simp; omega) | omega)))) hb
  clear a0 a1 a2 a3 az al
  replace HA : Hid (Blk _ (w.heap.size) _ _) := Blk.step (by repeat (first | (with_reducible exact HA.out) | ((with_reducible apply Blk.new); focus (first | rfl | (simp; done) | (simp; omega))) | (with_reducible apply Blk.drew) | (with_reducible apply Blk.alloc) | (with_reducible apply Blk.set_) | ((with_reducible apply Blk.far); rotate_left; focus (first | (simp; done) | (simp; omega) | omega)))) hb
  obtain ⟨a0, a1, a2, a3, az⟩ := cells4 HA.out
  have al := Blk.lt HA.out
  clear q0 q1 q2 q3 qz ql
  replace HQ : Hid (Blk _ (w.heap.size + 1) _ _) := Blk.step (by repeat (first | (with_reducible exact HQ.out) | ((with_reducible apply Blk.new); focus (first | rfl | (simp; done) | (simp; omega))) | (with_reducible apply Blk.drew) | (with_reducible apply Blk.alloc) | (with_reducible apply Blk.set_) | ((with_reducible apply Blk.far); rotate_left; focus (first | (simp; done) | (simp; omega) | omega)))) hb
  obtain ⟨q0, q1, q2, q3, qz⟩ := cells4 HQ.out
  have ql := Blk.lt HQ.out
  replace T : Hid (TopR _ _ _) := topR_step T.out (by repeat (first | (with_reducible exact Below.refl _ _) | (with_reducible exact Below.refl _ _) | (with_reducible apply Below.drew) | (with_reducible apply below_alloc) | ((with_reducible refine Below.alloc ?_ ?_ _); rotate_left; focus (first | (simp; done) | (simp; omega) | omega)) | ((with_reducible refine Below.setCell ?_ ?_ _); rotate_left; focus (first | (simp; done) | (simp; omega) | omega)))) hb
  replace TQ : Hid (TopR _ _ _) := topR_step TQ.out (by repeat (first | (with_reducible exact Below.refl _ _) | (with_reducible exact Below.refl _ _) | (with_reducible apply Below.drew) | (with_reducible apply below_alloc) | ((with_reducible refine Below.alloc ?_ ?_ _); rotate_left; focus (first | (simp; done) | (simp; omega) | omega)) | ((with_reducible refine Below.setCell ?_ ?_ _); rotate_left; focus (first | (simp; done) | (simp; omega) | omega)))) hb
  have s3 : w.heap.size + 1 < w3.heap.size := ql
  have TM := Lib.hid (own_top ow3)
  have TM3 := Lib.hid (own_top ow3)
  have s30 : w.heap.size < w3.heap.size := al
  clear hb ow3
  go_wp2_with fail
  refine Calls.mono (add_any id k b ?_ HKT.out HADD.out) ?_
  · exact TM.out.below (by repeat (first | (with_reducible exact Below.refl _ _) | (with_reducible exact Below.refl _ _) | (with_reducible apply Below.drew) | (with_reducible apply below_alloc) | ((with_reducible refine Below.alloc ?_ ?_ _); rotate_left; focus (first | (simp; done) | (simp; omega) | omega)) | ((with_reducible refine Below.setCell ?_ ?_ _); rotate_left; focus (first | (simp; done) | (simp; omega) | omega))))
  rintro e w4 ⟨adr4, cap4, rfl, ow4, hb⟩
  replace HB : Hid (Below w.heap.size w _) := below_step (by repeat (first | (with_reducible exact HB.out) | (with_reducible exact Below.refl _ _) | (with_reducible apply Below.drew) | (with_reducible apply below_alloc) | ((with_reducible refine Below.alloc ?_ ?_ _); rotate_left; focus (first | (simp; done) | (simp; omega) | omega)) | ((with_reducible refine Below.setCell ?_ ?_ _); rotate_left; focus (first | (simp; done) | (simp; omega) | omega)))) hb
  clear a0 a1 a2 a3 az al
  replace HA : Hid (Blk _ (w.heap.size) _ _) := Blk.step (by repeat (first | (with_reducible exact HA.out) | ((with_reducible apply Blk.new); focus (first | rfl | (simp; done) | (simp; omega))) | (with_reducible apply Blk.drew) | (with_reducible apply Blk.alloc) | (with_reducible apply Blk.set_) | ((with_reducible apply Blk.far); rotate_left; focus (first | (simp; done) | (simp; omega) | omega)))) hb
  obtain ⟨a0, a1, a2, a3, az⟩ := cells4 HA.out
  have al := Blk.lt HA.out
  clear q0 q1 q2 q3 qz ql
  replace HQ : Hid (Blk _ (w.heap.size + 1) _ _) := Blk.step (by repeat (first | (with_reducible exact HQ.out) | ((with_reducible apply Blk.new); focus (first | rfl | (simp; done) | (simp; omega))) | (with_reducible apply Blk.drew) | (with_reducible apply Blk.alloc) | (with_reducible apply Blk.set_) | ((with_reducible apply Blk.far); rotate_left; focus (first | (simp; done) | (simp; omega) | omega)))) hb
  obtain ⟨q0, q1, q2, q3, qz⟩ := cells4 HQ.out
  have ql := Blk.lt HQ.out
  replace T : Hid (TopR _ _ _) := topR_step T.out (by repeat (first | (with_reducible exact Below.refl _ _) | (with_reducible exact Below.refl _ _) | (with_reducible apply Below.drew) | (with_reducible apply below_alloc) | ((with_reducible refine Below.alloc ?_ ?_ _); rotate_left; focus (first | (simp; done) | (simp; omega) | omega)) | ((with_reducible refine Below.setCell ?_ ?_ _); rotate_left; focus (first | (simp; done) | (simp; omega) | omega)))) hb
  replace TQ : Hid (TopR _ _ _) := topR_step TQ.out (by repeat (first | (with_reducible exact Below.refl _ _) | (with_reducible exact Below.refl _ _) | (with_reducible apply Below.drew) | (with_reducible apply below_alloc) | ((with_reducible refine Below.alloc ?_ ?_ _); rotate_left; focus (first | (simp; done) | (simp; omega) | omega)) | ((with_reducible refine Below.setCell ?_ ?_ _); rotate_left; focus (first | (simp; done) | (simp; omega) | omega)))) hb
  replace TM : Hid (TopR _ _ _) := topR_step TM.out (by repeat (first | (with_reducible exact Below.refl _ _) | (with_reducible exact Below.refl _ _) | (with_reducible apply Below.drew) | (with_reducible apply below_alloc) | ((with_reducible refine Below.alloc ?_ ?_ _); rotate_left; focus (first | (simp; done) | (simp; omega) | omega)) | ((with_reducible refine Below.setCell ?_ ?_ _); rotate_left; focus (first | (simp; done) | (simp; omega) | omega)))) hb
  have M : Blk _ (w3.heap.size) _ _ := Blk.step (by repeat (first | ((with_reducible apply Blk.new); focus (first | rfl | (simp; done) | (simp; omega))) | (with_reducible apply Blk.drew) | (with_reducible apply Blk.alloc) | (with_reducible apply Blk.set_) | ((with_reducible apply Blk.far); rotate_left; focus (first | (simp; done) | (simp; omega) | omega)))) hb
  obtain ⟨m0, m1, m2, m3, mz⟩ := cells4 M
  have ml := Blk.lt M
  have HM := Lib.hid M
  clear M
  have s4 : w3.heap.size < w4.heap.size := ml
  have H3 : Hid (Below w3.heap.size w3 _) := below_step (by repeat (first | (with_reducible exact Below.refl _ _) | (with_reducible exact Below.refl _ _) | (with_reducible apply Below.drew) | (with_reducible apply below_alloc) | ((with_reducible refine Below.alloc ?_ ?_ _); rotate_left; focus (first | (simp; done) | (simp; omega) | omega)) | ((with_reducible refine Below.setCell ?_ ?_ _); rotate_left; focus (first | (simp; done) | (simp; omega) | omega)))) hb
  have OU : Hid (OwnE w4 (w3.heap.size + 1) _ _) := own_base ow4 (by simp)
  have HGU := Lib.hid (show ∀ g o, adr4 = some ⟨g, o, none⟩ → w3.heap.size + 1 ≤ g ∧ g < w4.heap.size from fun g o e => by have := OU.out.lt g (by rw [e]; rfl); omega)
  clear hb ow4
  go_wp2_with fail
  refine Calls.mono (refAdd_any id k b ?_ HADD.out) ?_
  · exact T.out.below (by repeat (first | (with_reducible exact Below.refl _ _) | (with_reducible exact Below.refl _ _) | (with_reducible apply Below.drew) | (with_reducible apply below_alloc) | ((with_reducible refine Below.alloc ?_ ?_ _); rotate_left; focus (first | (simp; done) | (simp; omega) | omega)) | ((with_reducible refine Below.setCell ?_ ?_ _); rotate_left; focus (first | (simp; done) | (simp; omega) | omega))))
  rintro e w5 ⟨adr5, cap5, rfl, ow5, hb⟩
  replace HB : Hid (Below w.heap.size w _) := below_step (by repeat (first | (with_reducible exact HB.out) | (with_reducible exact Below.refl _ _) | (with_reducible apply Below.drew) | (with_reducible apply below_alloc) | ((with_reducible refine Below.alloc ?_ ?_ _); rotate_left; focus (first | (simp; done) | (simp; omega) | omega)) | ((with_reducible refine Below.setCell ?_ ?_ _); rotate_left; focus (first | (simp; done) | (simp; omega) | omega)))) hb
  clear a0 a1 a2 a3 az al
  replace HA : Hid (Blk _ (w.heap.size) _ _) := Blk.step (by repeat (first | (with_reducible exact HA.out) | ((with_reducible apply Blk.new); focus (first | rfl | (simp; done) | (simp; omega))) | (with_reducible apply Blk.drew) | (with_reducible apply Blk.alloc) | (with_reducible apply Blk.set_) | ((with_reducible apply Blk.far); rotate_left; focus (first | (simp; done) | (simp; omega) | omega)))) hb
  obtain ⟨a0, a1, a2, a3, az⟩ := cells4 HA.out
  have al := Blk.lt HA.out
  clear q0 q1 q2 q3 qz ql
  replace HQ : Hid (Blk _ (w.heap.size + 1) _ _) := Blk.step (by repeat (first | (with_reducible exact HQ.out) | ((with_reducible apply Blk.new); focus (first | rfl | (simp; done) | (simp; omega))) | (with_reducible apply Blk.drew) | (with_reducible apply Blk.alloc) | (with_reducible apply Blk.set_) | ((with_reducible apply Blk.far); rotate_left; focus (first | (simp; done) | (simp; omega) | omega)))) hb
  obtain ⟨q0, q1, q2, q3, qz⟩ := cells4 HQ.out
  have ql := Blk.lt HQ.out
  clear m0 m1 m2 m3 mz ml
  replace HM : Hid (Blk _ (w3.heap.size) _ _) := Blk.step (by repeat (first | (with_reducible exact HM.out) | ((with_reducible apply Blk.new); focus (first | rfl | (simp; done) | (simp; omega))) | (with_reducible apply Blk.drew) | (with_reducible apply Blk.alloc) | (with_reducible apply Blk.set_) | ((with_reducible apply Blk.far); rotate_left; focus (first | (simp; done) | (simp; omega) | omega)))) hb
  obtain ⟨m0, m1, m2, m3, mz⟩ := cells4 HM.out
  have ml := Blk.lt HM.out
  replace T : Hid (TopR _ _ _) := topR_step T.out (by repeat (first | (with_reducible exact Below.refl _ _) | (with_reducible exact Below.refl _ _) | (with_reducible apply Below.drew) | (with_reducible apply below_alloc) | ((with_reducible refine Below.alloc ?_ ?_ _); rotate_left; focus (first | (simp; done) | (simp; omega) | omega)) | ((with_reducible refine Below.setCell ?_ ?_ _); rotate_left; focus (first | (simp; done) | (simp; omega) | omega)))) hb
  replace TQ : Hid (TopR _ _ _) := topR_step TQ.out (by repeat (first | (with_reducible exact Below.refl _ _) | (with_reducible exact Below.refl _ _) | (with_reducible apply Below.drew) | (with_reducible apply below_alloc) | ((with_reducible refine Below.alloc ?_ ?_ _); rotate_left; focus (first | (simp; done) | (simp; omega) | omega)) | ((with_reducible refine Below.setCell ?_ ?_ _); rotate_left; focus (first | (simp; done) | (simp; omega) | omega)))) hb
  replace TM : Hid (TopR _ _ _) := topR_step TM.out (by repeat (first | (with_reducible exact Below.refl _ _) | (with_reducible exact Below.refl _ _) | (with_reducible apply Below.drew) | (with_reducible apply below_alloc) | ((with_reducible refine Below.alloc ?_ ?_ _); rotate_left; focus (first | (simp; done) | (simp; omega) | omega)) | ((with_reducible refine Below.setCell ?_ ?_ _); rotate_left; focus (first | (simp; done) | (simp; omega) | omega)))) hb
  replace OU : Hid (OwnE _ _ _ _) := own_step (by repeat (first | (with_reducible exact OU.out) | (with_reducible apply own_drew) | (with_reducible apply own_alloc) | ((with_reducible apply own_set); rotate_left; focus (first | (simp; done) | (simp; omega) | omega)))) hb
  replace H3 : Hid (Below w3.heap.size w3 _) := below_step (by repeat (first | (with_reducible exact H3.out) | (with_reducible exact Below.refl _ _) | (with_reducible apply Below.drew) | (with_reducible apply below_alloc) | ((with_reducible refine Below.alloc ?_ ?_ _); rotate_left; focus (first | (simp; done) | (simp; omega) | omega)) | ((with_reducible refine Below.setCell ?_ ?_ _); rotate_left; focus (first | (simp; done) | (simp; omega) | omega)))) hb
  have U : Blk _ (w4.heap.size) _ _ := Blk.step (by repeat (first | ((with_reducible apply Blk.new); focus (first | rfl | (simp; done) | (simp; omega))) | (with_reducible apply Blk.drew) | (with_reducible apply Blk.alloc) | (with_reducible apply Blk.set_) | ((with_reducible apply Blk.far); rotate_left; focus (first | (simp; done) | (simp; omega) | omega)))) hb
  obtain ⟨u0, u1, u2, u3, uz⟩ := cells4 U
  have ul := Blk.lt U
  have HU := Lib.hid U
  clear U
  have s5 : w4.heap.size < w5.heap.size := ul
  have TV := Lib.hid (own_top ow5)
  clear hb ow5
  go_wp2_with fail
  refine Calls.mono (fetch_any at_ ?_ HKT.out HFET.out) ?_
  · exact TM.out.below (by repeat (first | (with_reducible exact Below.refl _ _) | (with_reducible exact Below.refl _ _) | (with_reducible apply Below.drew) | (with_reducible apply below_alloc) | ((with_reducible refine Below.alloc ?_ ?_ _); rotate_left; focus (first | (simp; done) | (simp; omega) | omega)) | ((with_reducible refine Below.setCell ?_ ?_ _); rotate_left; focus (first | (simp; done) | (simp; omega) | omega))))
  rintro e w6 ⟨rfl, hb⟩
  replace HB : Hid (Below w.heap.size w _) := below_step (by repeat (first | (with_reducible exact HB.out) | (with_reducible exact Below.refl _ _) | (with_reducible apply Below.drew) | (with_reducible apply below_alloc) | ((with_reducible refine Below.alloc ?_ ?_ _); rotate_left; focus (first | (simp; done) | (simp; omega) | omega)) | ((with_reducible refine Below.setCell ?_ ?_ _); rotate_left; focus (first | (simp; done) | (simp; omega) | omega)))) hb
  clear a0 a1 a2 a3 az al
  replace HA : Hid (Blk _ (w.heap.size) _ _) := Blk.step (by repeat (first | (with_reducible exact HA.out) | ((with_reducible apply Blk.new); focus (first | rfl | (simp; done) | (simp; omega))) | (with_reducible apply Blk.drew) | (with_reducible apply Blk.alloc) | (with_reducible apply Blk.set_) | ((with_reducible apply Blk.far); rotate_left; focus (first | (simp; done) | (simp; omega) | omega)))) hb
  obtain ⟨a0, a1, a2, a3, az⟩ := cells4 HA.out
  have al := Blk.lt HA.out
  clear q0 q1 q2 q3 qz ql
  replace HQ : Hid (Blk _ (w.heap.size + 1) _ _) := Blk.step (by repeat (first | (with_reducible exact HQ.out) | ((with_reducible apply Blk.new); focus (first | rfl | (simp; done) | (simp; omega))) | (with_reducible apply Blk.drew) | (with_reducible apply Blk.alloc) | (with_reducible apply Blk.set_) | ((with_reducible apply Blk.far); rotate_left; focus (first | (simp; done) | (simp; omega) | omega)))) hb
  obtain ⟨q0, q1, q2, q3, qz⟩ := cells4 HQ.out
  have ql := Blk.lt HQ.out
  clear m0 m1 m2 m3 mz ml
  replace HM : Hid (Blk _ (w3.heap.size) _ _) := Blk.step (by repeat (first | (with_reducible exact HM.out) | ((with_reducible apply Blk.new); focus (first | rfl | (simp; done) | (simp; omega))) | (with_reducible apply Blk.drew) | (with_reducible apply Blk.alloc) | (with_reducible apply Blk.set_) | ((with_reducible apply Blk.far); rotate_left; focus (first | (simp; done) | (simp; omega) | omega)))) hb
  obtain ⟨m0, m1, m2, m3, mz⟩ := cells4 HM.out
  have ml := Blk.lt HM.out
  clear u0 u1 u2 u3 uz ul
  replace HU : Hid (Blk _ (w4.heap.size) _ _) := Blk.step (by repeat (first | (with_reducible exact HU.out) | ((with_reducible apply Blk.new); focus (first | rfl | (simp; done) | (simp; omega))) | (with_reducible apply Blk.drew) | (with_reducible apply Blk.alloc) | (with_reducible apply Blk.set_) | ((with_reducible apply Blk.far); rotate_left; focus (first | (simp; done) | (simp; omega) | omega)))) hb
  obtain ⟨u0, u1, u2, u3, uz⟩ := cells4 HU.out
  have ul := Blk.lt HU.out
  replace T : Hid (TopR _ _ _) := topR_step T.out (by repeat (first | (with_reducible exact Below.refl _ _) | (with_reducible exact Below.refl _ _) | (with_reducible apply Below.drew) | (with_reducible apply below_alloc) | ((with_reducible refine Below.alloc ?_ ?_ _); rotate_left; focus (first | (simp; done) | (simp; omega) | omega)) | ((with_reducible refine Below.setCell ?_ ?_ _); rotate_left; focus (first | (simp; done) | (simp; omega) | omega)))) hb
  replace TQ : Hid (TopR _ _ _) := topR_step TQ.out (by repeat (first | (with_reducible exact Below.refl _ _) | (with_reducible exact Below.refl _ _) | (with_reducible apply Below.drew) | (with_reducible apply below_alloc) | ((with_reducible refine Below.alloc ?_ ?_ _); rotate_left; focus (first | (simp; done) | (simp; omega) | omega)) | ((with_reducible refine Below.setCell ?_ ?_ _); rotate_left; focus (first | (simp; done) | (simp; omega) | omega)))) hb
  replace TM : Hid (TopR _ _ _) := topR_step TM.out (by repeat (first | (with_reducible exact Below.refl _ _) | (with_reducible exact Below.refl _ _) | (with_reducible apply Below.drew) | (with_reducible apply below_alloc) | ((with_reducible refine Below.alloc ?_ ?_ _); rotate_left; focus (first | (simp; done) | (simp; omega) | omega)) | ((with_reducible refine Below.setCell ?_ ?_ _); rotate_left; focus (first | (simp; done) | (simp; omega) | omega)))) hb
  replace TV : Hid (TopR _ _ _) := topR_step TV.out (by repeat (first | (with_reducible exact Below.refl _ _) | (with_reducible exact Below.refl _ _) | (with_reducible apply Below.drew) | (with_reducible apply below_alloc) | ((with_reducible refine Below.alloc ?_ ?_ _); rotate_left; focus (first | (simp; done) | (simp; omega) | omega)) | ((with_reducible refine Below.setCell ?_ ?_ _); rotate_left; focus (first | (simp; done) | (simp; omega) | omega)))) hb
  replace OU : Hid (OwnE _ _ _ _) := own_step (by repeat (first | (with_reducible exact OU.out) | (with_reducible apply own_drew) | (with_reducible apply own_alloc) | ((with_reducible apply own_set); rotate_left; focus (first | (simp; done) | (simp; omega) | omega)))) hb
  replace H3 : Hid (Below w3.heap.size w3 _) := below_step (by repeat (first | (with_reducible exact H3.out) | (with_reducible exact Below.refl _ _) | (with_reducible apply Below.drew) | (with_reducible apply below_alloc) | ((with_reducible refine Below.alloc ?_ ?_ _); rotate_left; focus (first | (simp; done) | (simp; omega) | omega)) | ((with_reducible refine Below.setCell ?_ ?_ _); rotate_left; focus (first | (simp; done) | (simp; omega) | omega)))) hb
  have V : Blk _ (w5.heap.size) _ _ := Blk.step (by repeat (first | ((with_reducible apply Blk.new); focus (first | rfl | (simp; done) | (simp; omega))) | (with_reducible apply Blk.drew) | (with_reducible apply Blk.alloc) | (with_reducible apply Blk.set_) | ((with_reducible apply Blk.far); rotate_left; focus (first | (simp; done) | (simp; omega) | omega)))) hb
  obtain ⟨v0, v1, v2, v3, vz⟩ := cells4 V
  have vl := Blk.lt V
  have HV := Lib.hid V
  clear V
  have s6 : w5.heap.size < w6.heap.size := vl
  clear hb
  go_wp2_with fail
  refine Calls.mono (refFetch_any at_ ?_ HFET.out) ?_
  · exact T.out.below (by repeat (first | (with_reducible exact Below.refl _ _) | (with_reducible exact Below.refl _ _) | (with_reducible apply Below.drew) | (with_reducible apply below_alloc) | ((with_reducible refine Below.alloc ?_ ?_ _); rotate_left; focus (first | (simp; done) | (simp; omega) | omega)) | ((with_reducible refine Below.setCell ?_ ?_ _); rotate_left; focus (first | (simp; done) | (simp; omega) | omega))))
  rintro e w7 ⟨rfl, hb⟩
  replace HB : Hid (Below w.heap.size w _) := below_step (by repeat (first | (with_reducible exact HB.out) | (with_reducible exact Below.refl _ _) | (with_reducible apply Below.drew) | (with_reducible apply below_alloc) | ((with_reducible refine Below.alloc ?_ ?_ _); rotate_left; focus (first | (simp; done) | (simp; omega) | omega)) | ((with_reducible refine Below.setCell ?_ ?_ _); rotate_left; focus (first | (simp; done) | (simp; omega) | omega)))) hb
  clear a0 a1 a2 a3 az al
  replace HA : Hid (Blk _ (w.heap.size) _ _) := Blk.step (by repeat (first | (with_reducible exact HA.out) | ((with_reducible apply Blk.new); focus (first | rfl | (simp; done) | (simp; omega))) | (with_reducible apply Blk.drew) | (with_reducible apply Blk.alloc) | (with_reducible apply Blk.set_) | ((with_reducible apply Blk.far); rotate_left; focus (first | (simp; done) | (simp; omega) | omega)))) hb
  obtain ⟨a0, a1, a2, a3, az⟩ := cells4 HA.out
  have al := Blk.lt HA.out
  clear q0 q1 q2 q3 qz ql
  replace HQ : Hid (Blk _ (w.heap.size + 1) _ _) := Blk.step (by repeat (first | (with_reducible exact HQ.out) | ((with_reducible apply Blk.new); focus (first | rfl | (simp; done) | (simp; omega))) | (with_reducible apply Blk.drew) | (with_reducible apply Blk.alloc) | (with_reducible apply Blk.set_) | ((with_reducible apply Blk.far); rotate_left; focus (first | (simp; done) | (simp; omega) | omega)))) hb
  obtain ⟨q0, q1, q2, q3, qz⟩ := cells4 HQ.out
  have ql := Blk.lt HQ.out
  clear m0 m1 m2 m3 mz ml
  replace HM : Hid (Blk _ (w3.heap.size) _ _) := Blk.step (by repeat (first | (with_reducible exact HM.out) | ((with_reducible apply Blk.new); focus (first | rfl | (simp; done) | (simp; omega))) | (with_reducible apply Blk.drew) | (with_reducible apply Blk.alloc) | (with_reducible apply Blk.set_) | ((with_reducible apply Blk.far); rotate_left; focus (first | (simp; done) | (simp; omega) | omega)))) hb
  obtain ⟨m0, m1, m2, m3, mz⟩ := cells4 HM.out
  have ml := Blk.lt HM.out
  clear u0 u1 u2 u3 uz ul
  replace HU : Hid (Blk _ (w4.heap.size) _ _) := Blk.step (by repeat (first | (with_reducible exact HU.out) | ((with_reducible apply Blk.new); focus (first | rfl | (simp; done) | (simp; omega))) | (with_reducible apply Blk.drew) | (with_reducible apply Blk.alloc) | (with_reducible apply Blk.set_) | ((with_reducible apply Blk.far); rotate_left; focus (first | (simp; done) | (simp; omega) | omega)))) hb
  obtain ⟨u0, u1, u2, u3, uz⟩ := cells4 HU.out
  have ul := Blk.lt HU.out
  clear v0 v1 v2 v3 vz vl
  replace HV : Hid (Blk _ (w5.heap.size) _ _) := Blk.step (by repeat (first | (with_reducible exact HV.out) | ((with_reducible apply Blk.new); focus (first | rfl | (simp; done) | (simp; omega))) | (with_reducible apply Blk.drew) | (with_reducible apply Blk.alloc) | (with_reducible apply Blk.set_) | ((with_reducible apply Blk.far); rotate_left; focus (first | (simp; done) | (simp; omega) | omega)))) hb
  obtain ⟨v0, v1, v2, v3, vz⟩ := cells4 HV.out
  have vl := Blk.lt HV.out
  replace T : Hid (TopR _ _ _) := topR_step T.out (by repeat (first | (with_reducible exact Below.refl _ _) | (with_reducible exact Below.refl _ _) | (with_reducible apply Below.drew) | (with_reducible apply below_alloc) | ((with_reducible refine Below.alloc ?_ ?_ _); rotate_left; focus (first | (simp; done) | (simp; omega) | omega)) | ((with_reducible refine Below.setCell ?_ ?_ _); rotate_left; focus (first | (simp; done) | (simp; omega) | omega)))) hb
  replace TQ : Hid (TopR _ _ _) := topR_step TQ.out (by repeat (first | (with_reducible exact Below.refl _ _) | (with_reducible exact Below.refl _ _) | (with_reducible apply Below.drew) | (with_reducible apply below_alloc) | ((with_reducible refine Below.alloc ?_ ?_ _); rotate_left; focus (first | (simp; done) | (simp; omega) | omega)) | ((with_reducible refine Below.setCell ?_ ?_ _); rotate_left; focus (first | (simp; done) | (simp; omega) | omega)))) hb
  replace TM : Hid (TopR _ _ _) := topR_step TM.out (by repeat (first | (with_reducible exact Below.refl _ _) | (with_reducible exact Below.refl _ _) | (with_reducible apply Below.drew) | (with_reducible apply below_alloc) | ((with_reducible refine Below.alloc ?_ ?_ _); rotate_left; focus (first | (simp; done) | (simp; omega) | omega)) | ((with_reducible refine Below.setCell ?_ ?_ _); rotate_left; focus (first | (simp; done) | (simp; omega) | omega)))) hb
  replace TV : Hid (TopR _ _ _) := topR_step TV.out (by repeat (first | (with_reducible exact Below.refl _ _) | (with_reducible exact Below.refl _ _) | (with_reducible apply Below.drew) | (with_reducible apply below_alloc) | ((with_reducible refine Below.alloc ?_ ?_ _); rotate_left; focus (first | (simp; done) | (simp; omega) | omega)) | ((with_reducible refine Below.setCell ?_ ?_ _); rotate_left; focus (first | (simp; done) | (simp; omega) | omega)))) hb
  replace OU : Hid (OwnE _ _ _ _) := own_step (by repeat (first | (with_reducible exact OU.out) | (with_reducible apply own_drew) | (with_reducible apply own_alloc) | ((with_reducible apply own_set); rotate_left; focus (first | (simp; done) | (simp; omega) | omega)))) hb
  replace H3 : Hid (Below w3.heap.size w3 _) := below_step (by repeat (first | (with_reducible exact H3.out) | (with_reducible exact Below.refl _ _) | (with_reducible apply Below.drew) | (with_reducible apply below_alloc) | ((with_reducible refine Below.alloc ?_ ?_ _); rotate_left; focus (first | (simp; done) | (simp; omega) | omega)) | ((with_reducible refine Below.setCell ?_ ?_ _); rotate_left; focus (first | (simp; done) | (simp; omega) | omega)))) hb
  have X : Blk _ (w6.heap.size) _ _ := Blk.step (by repeat (first | ((with_reducible apply Blk.new); focus (first | rfl | (simp; done) | (simp; omega))) | (with_reducible apply Blk.drew) | (with_reducible apply Blk.alloc) | (with_reducible apply Blk.set_) | ((with_reducible apply Blk.far); rotate_left; focus (first | (simp; done) | (simp; omega) | omega)))) hb
  obtain ⟨x0, x1, x2, x3, xz⟩ := cells4 X
  have xl := Blk.lt X
  have HX := Lib.hid X
  clear X
  have s7 : w6.heap.size < w7.heap.size := xl
  clear hb
  go_wp2_with fail
  refine Calls.mono (topTwin_any ?_ HL2.out) ?_
  · exact TM.out.below (by repeat (first | (with_reducible exact Below.refl _ _) | (with_reducible exact Below.refl _ _) | (with_reducible apply Below.drew) | (with_reducible apply below_alloc) | ((with_reducible refine Below.alloc ?_ ?_ _); rotate_left; focus (first | (simp; done) | (simp; omega) | omega)) | ((with_reducible refine Below.setCell ?_ ?_ _); rotate_left; focus (first | (simp; done) | (simp; omega) | omega))))
  rintro e w8 ⟨adr8, cap8, rfl, ow8, hb⟩
  replace HB : Hid (Below w.heap.size w _) := below_step (by repeat (first | (with_reducible exact HB.out) | (with_reducible exact Below.refl _ _) | (with_reducible apply Below.drew) | (with_reducible apply below_alloc) | ((with_reducible refine Below.alloc ?_ ?_ _); rotate_left; focus (first | (simp; done) | (simp; omega) | omega)) | ((with_reducible refine Below.setCell ?_ ?_ _); rotate_left; focus (first | (simp; done) | (simp; omega) | omega)))) hb
  clear a0 a1 a2 a3 az al
  replace HA : Hid (Blk _ (w.heap.size) _ _) := Blk.step (by repeat (first | (with_reducible exact HA.out) | ((with_reducible apply Blk.new); focus (first | rfl | (simp; done) | (simp; omega))) | (with_reducible apply Blk.drew) | (with_reducible apply Blk.alloc) | (with_reducible apply Blk.set_) | ((with_reducible apply Blk.far); rotate_left; focus (first | (simp; done) | (simp; omega) | omega)))) hb
  obtain ⟨a0, a1, a2, a3, az⟩ := cells4 HA.out
  have al := Blk.lt HA.out
  clear q0 q1 q2 q3 qz ql
  replace HQ : Hid (Blk _ (w.heap.size + 1) _ _) := Blk.step (by repeat (first | (with_reducible exact HQ.out) | ((with_reducible apply Blk.new); focus (first | rfl | (simp; done) | (simp; omega))) | (with_reducible apply Blk.drew) | (with_reducible apply Blk.alloc) | (with_reducible apply Blk.set_) | ((with_reducible apply Blk.far); rotate_left; focus (first | (simp; done) | (simp; omega) | omega)))) hb
  obtain ⟨q0, q1, q2, q3, qz⟩ := cells4 HQ.out
  have ql := Blk.lt HQ.out
  clear m0 m1 m2 m3 mz ml
  replace HM : Hid (Blk _ (w3.heap.size) _ _) := Blk.step (by repeat (first | (with_reducible exact HM.out) | ((with_reducible apply Blk.new); focus (first | rfl | (simp; done) | (simp; omega))) | (with_reducible apply Blk.drew) | (with_reducible apply Blk.alloc) | (with_reducible apply Blk.set_) | ((with_reducible apply Blk.far); rotate_left; focus (first | (simp; done) | (simp; omega) | omega)))) hb
  obtain ⟨m0, m1, m2, m3, mz⟩ := cells4 HM.out
  have ml := Blk.lt HM.out
  clear u0 u1 u2 u3 uz ul
  replace HU : Hid (Blk _ (w4.heap.size) _ _) := Blk.step (by repeat (first | (with_reducible exact HU.out) | ((with_reducible apply Blk.new); focus (first | rfl | (simp; done) | (simp; omega))) | (with_reducible apply Blk.drew) | (with_reducible apply Blk.alloc) | (with_reducible apply Blk.set_) | ((with_reducible apply Blk.far); rotate_left; focus (first | (simp; done) | (simp; omega) | omega)))) hb
  obtain ⟨u0, u1, u2, u3, uz⟩ := cells4 HU.out
  have ul := Blk.lt HU.out
  clear v0 v1 v2 v3 vz vl
  replace HV : Hid (Blk _ (w5.heap.size) _ _) := Blk.step (by repeat (first | (with_reducible exact HV.out) | ((with_reducible apply Blk.new); focus (first | rfl | (simp; done) | (simp; omega))) | (with_reducible apply Blk.drew) | (with_reducible apply Blk.alloc) | (with_reducible apply Blk.set_) | ((with_reducible apply Blk.far); rotate_left; focus (first | (simp; done) | (simp; omega) | omega)))) hb
  obtain ⟨v0, v1, v2, v3, vz⟩ := cells4 HV.out
  have vl := Blk.lt HV.out
  clear x0 x1 x2 x3 xz xl
  replace HX : Hid (Blk _ (w6.heap.size) _ _) := Blk.step (by repeat (first | (with_reducible exact HX.out) | ((with_reducible apply Blk.new); focus (first | rfl | (simp; done) | (simp; omega))) | (with_reducible apply Blk.drew) | (with_reducible apply Blk.alloc) | (with_reducible apply Blk.set_) | ((with_reducible apply Blk.far); rotate_left; focus (first | (simp; done) | (simp; omega) | omega)))) hb
  obtain ⟨x0, x1, x2, x3, xz⟩ := cells4 HX.out
  have xl := Blk.lt HX.out
  replace T : Hid (TopR _ _ _) := topR_step T.out (by repeat (first | (with_reducible exact Below.refl _ _) | (with_reducible exact Below.refl _ _) | (with_reducible apply Below.drew) | (with_reducible apply below_alloc) | ((with_reducible refine Below.alloc ?_ ?_ _); rotate_left; focus (first | (simp; done) | (simp; omega) | omega)) | ((with_reducible refine Below.setCell ?_ ?_ _); rotate_left; focus (first | (simp; done) | (simp; omega) | omega)))) hb
  replace TQ : Hid (TopR _ _ _) := topR_step TQ.out (by repeat (first | (with_reducible exact Below.refl _ _) | (with_reducible exact Below.refl _ _) | (with_reducible apply Below.drew) | (with_reducible apply below_alloc) | ((with_reducible refine Below.alloc ?_ ?_ _); rotate_left; focus (first | (simp; done) | (simp; omega) | omega)) | ((with_reducible refine Below.setCell ?_ ?_ _); rotate_left; focus (first | (simp; done) | (simp; omega) | omega)))) hb
  replace TM : Hid (TopR _ _ _) := topR_step TM.out (by repeat (first | (with_reducible exact Below.refl _ _) | (with_reducible exact Below.refl _ _) | (with_reducible apply Below.drew) | (with_reducible apply below_alloc) | ((with_reducible refine Below.alloc ?_ ?_ _); rotate_left; focus (first | (simp; done) | (simp; omega) | omega)) | ((with_reducible refine Below.setCell ?_ ?_ _); rotate_left; focus (first | (simp; done) | (simp; omega) | omega)))) hb
  replace TV : Hid (TopR _ _ _) := topR_step TV.out (by repeat (first | (with_reducible exact Below.refl _ _) | (with_reducible exact Below.refl _ _) | (with_reducible apply Below.drew) | (with_reducible apply below_alloc) | ((with_reducible refine Below.alloc ?_ ?_ _); rotate_left; focus (first | (simp; done) | (simp; omega) | omega)) | ((with_reducible refine Below.setCell ?_ ?_ _); rotate_left; focus (first | (simp; done) | (simp; omega) | omega)))) hb
  replace OU : Hid (OwnE _ _ _ _) := own_step (by repeat (first | (with_reducible exact OU.out) | (with_reducible apply own_drew) | (with_reducible apply own_alloc) | ((with_reducible apply own_set); rotate_left; focus (first | (simp; done) | (simp; omega) | omega)))) hb
  replace H3 : Hid (Below w3.heap.size w3 _) := below_step (by repeat (first | (with_reducible exact H3.out) | (with_reducible exact Below.refl _ _) | (with_reducible apply Below.drew) | (with_reducible apply below_alloc) | ((with_reducible refine Below.alloc ?_ ?_ _); rotate_left; focus (first | (simp; done) | (simp; omega) | omega)) | ((with_reducible refine Below.setCell ?_ ?_ _); rotate_left; focus (first | (simp; done) | (simp; omega) | omega)))) hb
  have Y : Blk _ (w7.heap.size) _ _ := Blk.step (by repeat (first | ((with_reducible apply Blk.new); focus (first | rfl | (simp; done) | (simp; omega))) | (with_reducible apply Blk.drew) | (with_reducible apply Blk.alloc) | (with_reducible apply Blk.set_) | ((with_reducible apply Blk.far); rotate_left; focus (first | (simp; done) | (simp; omega) | omega)))) hb
  obtain ⟨y0, y1, y2, y3, yz⟩ := cells4 Y
  have yl := Blk.lt Y
  have HY := Lib.hid Y
  clear Y
  have OC : Hid (OwnE w8 (w7.heap.size + 1) _ _) := own_base ow8 (by simp)
  have HGC := Lib.hid (show ∀ g o, adr8 = some ⟨g, o, none⟩ → w7.heap.size + 1 ≤ g ∧ g < w8.heap.size from fun g o e => by have := OC.out.lt g (by rw [e]; rfl); omega)
  have TU := Lib.hid (own_top OU.out)
  have TC := Lib.hid (own_top OC.out)
  have s8 : w7.heap.size < w8.heap.size := yl
  clear hb ow8
  go_wp2_with fail
  refine wp_region_below (by kernel_rfl) (by kernel_rfl) ?_
  repeat
    with_reducible refine wpQuiet_step (fun K hK => ?_)
    first
      | refine quiet_not (by rfl) (hK _ ?_)
      | refine quiet_any (by rfl) ?_
        apply Exists.intro
        refine ⟨fun wq hq => ?_, hK _ ?_⟩
        · obtain ⟨qc, _⟩ := bcell hq.out
          go_simp
          first
            | done
            | (with_reducible rfl)
            | (first | (go_at_call 22; exact call_in hq.out (refSame_refl u (topR_step TU.out (by repeat (first | (with_reducible exact Below.refl _ _) | (with_reducible exact Below.refl _ _) | (with_reducible apply Below.drew) | (with_reducible apply below_alloc) | ((with_reducible refine Below.alloc ?_ ?_ _); rotate_left; focus (first | (simp; done) | (simp; omega) | omega)) | ((with_reducible refine Below.setCell ?_ ?_ _); rotate_left; focus (first | (simp; done) | (simp; omega) | omega)))) hq.out) (topR_step TV.out (by repeat (first | (with_reducible exact Below.refl _ _) | (with_reducible exact Below.refl _ _) | (with_reducible apply Below.drew) | (with_reducible apply below_alloc) | ((with_reducible refine Below.alloc ?_ ?_ _); rotate_left; focus (first | (simp; done) | (simp; omega) | omega)) | ((with_reducible refine Below.setCell ?_ ?_ _); rotate_left; focus (first | (simp; done) | (simp; omega) | omega)))) hq.out))) | (go_at_call 34; exact call_in hq.out (check_any (topR_step TM.out (by repeat (first | (with_reducible exact Below.refl _ _) | (with_reducible exact Below.refl _ _) | (with_reducible apply Below.drew) | (with_reducible apply below_alloc) | ((with_reducible refine Below.alloc ?_ ?_ _); rotate_left; focus (first | (simp; done) | (simp; omega) | omega)) | ((with_reducible refine Below.setCell ?_ ?_ _); rotate_left; focus (first | (simp; done) | (simp; omega) | omega)))) hq.out) HKT.out c HCH2.out)) | (go_at_call 39; exact call_in hq.out (refCheck_any (topR_step T.out (by repeat (first | (with_reducible exact Below.refl _ _) | (with_reducible exact Below.refl _ _) | (with_reducible apply Below.drew) | (with_reducible apply below_alloc) | ((with_reducible refine Below.alloc ?_ ?_ _); rotate_left; focus (first | (simp; done) | (simp; omega) | omega)) | ((with_reducible refine Below.setCell ?_ ?_ _); rotate_left; focus (first | (simp; done) | (simp; omega) | omega)))) hq.out) HCHK.out)))
    clear hK K
    simp only [Act.put, List.setIfInBounds_toArray, List.set_cons_zero, List.set_cons_succ]
  refine wpQuiet_nil ?_
  intro w9 hb
  replace HB : Hid (Below w.heap.size w _) := below_step (by repeat (first | (with_reducible exact HB.out) | (with_reducible exact Below.refl _ _) | (with_reducible apply Below.drew) | (with_reducible apply below_alloc) | ((with_reducible refine Below.alloc ?_ ?_ _); rotate_left; focus (first | (simp; done) | (simp; omega) | omega)) | ((with_reducible refine Below.setCell ?_ ?_ _); rotate_left; focus (first | (simp; done) | (simp; omega) | omega)))) hb
  clear a0 a1 a2 a3 az al
  replace HA : Hid (Blk _ (w.heap.size) _ _) := Blk.step (by repeat (first | (with_reducible exact HA.out) | ((with_reducible apply Blk.new); focus (first | rfl | (simp; done) | (simp; omega))) | (with_reducible apply Blk.drew) | (with_reducible apply Blk.alloc) | (with_reducible apply Blk.set_) | ((with_reducible apply Blk.far); rotate_left; focus (first | (simp; done) | (simp; omega) | omega)))) hb
  obtain ⟨a0, a1, a2, a3, az⟩ := cells4 HA.out
  have al := Blk.lt HA.out
  clear q0 q1 q2 q3 qz ql
  replace HQ : Hid (Blk _ (w.heap.size + 1) _ _) := Blk.step (by repeat (first | (with_reducible exact HQ.out) | ((with_reducible apply Blk.new); focus (first | rfl | (simp; done) | (simp; omega))) | (with_reducible apply Blk.drew) | (with_reducible apply Blk.alloc) | (with_reducible apply Blk.set_) | ((with_reducible apply Blk.far); rotate_left; focus (first | (simp; done) | (simp; omega) | omega)))) hb
  obtain ⟨q0, q1, q2, q3, qz⟩ := cells4 HQ.out
  have ql := Blk.lt HQ.out
  clear m0 m1 m2 m3 mz ml
  replace HM : Hid (Blk _ (w3.heap.size) _ _) := Blk.step (by repeat (first | (with_reducible exact HM.out) | ((with_reducible apply Blk.new); focus (first | rfl | (simp; done) | (simp; omega))) | (with_reducible apply Blk.drew) | (with_reducible apply Blk.alloc) | (with_reducible apply Blk.set_) | ((with_reducible apply Blk.far); rotate_left; focus (first | (simp; done) | (simp; omega) | omega)))) hb
  obtain ⟨m0, m1, m2, m3, mz⟩ := cells4 HM.out
  have ml := Blk.lt HM.out
  clear u0 u1 u2 u3 uz ul
  replace HU : Hid (Blk _ (w4.heap.size) _ _) := Blk.step (by repeat (first | (with_reducible exact HU.out) | ((with_reducible apply Blk.new); focus (first | rfl | (simp; done) | (simp; omega))) | (with_reducible apply Blk.drew) | (with_reducible apply Blk.alloc) | (with_reducible apply Blk.set_) | ((with_reducible apply Blk.far); rotate_left; focus (first | (simp; done) | (simp; omega) | omega)))) hb
  obtain ⟨u0, u1, u2, u3, uz⟩ := cells4 HU.out
  have ul := Blk.lt HU.out
  clear v0 v1 v2 v3 vz vl
  replace HV : Hid (Blk _ (w5.heap.size) _ _) := Blk.step (by repeat (first | (with_reducible exact HV.out) | ((with_reducible apply Blk.new); focus (first | rfl | (simp; done) | (simp; omega))) | (with_reducible apply Blk.drew) | (with_reducible apply Blk.alloc) | (with_reducible apply Blk.set_) | ((with_reducible apply Blk.far); rotate_left; focus (first | (simp; done) | (simp; omega) | omega)))) hb
  obtain ⟨v0, v1, v2, v3, vz⟩ := cells4 HV.out
  have vl := Blk.lt HV.out
  replace T : Hid (TopR _ _ _) := topR_step T.out (by repeat (first | (with_reducible exact Below.refl _ _) | (with_reducible exact Below.refl _ _) | (with_reducible apply Below.drew) | (with_reducible apply below_alloc) | ((with_reducible refine Below.alloc ?_ ?_ _); rotate_left; focus (first | (simp; done) | (simp; omega) | omega)) | ((with_reducible refine Below.setCell ?_ ?_ _); rotate_left; focus (first | (simp; done) | (simp; omega) | omega)))) hb
  replace TQ : Hid (TopR _ _ _) := topR_step TQ.out (by repeat (first | (with_reducible exact Below.refl _ _) | (with_reducible exact Below.refl _ _) | (with_reducible apply Below.drew) | (with_reducible apply below_alloc) | ((with_reducible refine Below.alloc ?_ ?_ _); rotate_left; focus (first | (simp; done) | (simp; omega) | omega)) | ((with_reducible refine Below.setCell ?_ ?_ _); rotate_left; focus (first | (simp; done) | (simp; omega) | omega)))) hb
  replace TM : Hid (TopR _ _ _) := topR_step TM.out (by repeat (first | (with_reducible exact Below.refl _ _) | (with_reducible exact Below.refl _ _) | (with_reducible apply Below.drew) | (with_reducible apply below_alloc) | ((with_reducible refine Below.alloc ?_ ?_ _); rotate_left; focus (first | (simp; done) | (simp; omega) | omega)) | ((with_reducible refine Below.setCell ?_ ?_ _); rotate_left; focus (first | (simp; done) | (simp; omega) | omega)))) hb
  replace TC : Hid (TopR _ _ _) := topR_step TC.out (by repeat (first | (with_reducible exact Below.refl _ _) | (with_reducible exact Below.refl _ _) | (with_reducible apply Below.drew) | (with_reducible apply below_alloc) | ((with_reducible refine Below.alloc ?_ ?_ _); rotate_left; focus (first | (simp; done) | (simp; omega) | omega)) | ((with_reducible refine Below.setCell ?_ ?_ _); rotate_left; focus (first | (simp; done) | (simp; omega) | omega)))) hb
  replace OU : Hid (OwnE _ _ _ _) := own_step (by repeat (first | (with_reducible exact OU.out) | (with_reducible apply own_drew) | (with_reducible apply own_alloc) | ((with_reducible apply own_set); rotate_left; focus (first | (simp; done) | (simp; omega) | omega)))) hb
  replace OC : Hid (OwnE _ _ _ _) := own_step (by repeat (first | (with_reducible exact OC.out) | (with_reducible apply own_drew) | (with_reducible apply own_alloc) | ((with_reducible apply own_set); rotate_left; focus (first | (simp; done) | (simp; omega) | omega)))) hb
  replace H3 : Hid (Below w3.heap.size w3 _) := below_step (by repeat (first | (with_reducible exact H3.out) | (with_reducible exact Below.refl _ _) | (with_reducible apply Below.drew) | (with_reducible apply below_alloc) | ((with_reducible refine Below.alloc ?_ ?_ _); rotate_left; focus (first | (simp; done) | (simp; omega) | omega)) | ((with_reducible refine Below.setCell ?_ ?_ _); rotate_left; focus (first | (simp; done) | (simp; omega) | omega)))) hb
  have C : Blk _ (w8.heap.size) _ _ := Blk.step (by repeat (first | ((with_reducible apply Blk.new); focus (first | rfl | (simp; done) | (simp; omega))) | (with_reducible apply Blk.drew) | (with_reducible apply Blk.alloc) | (with_reducible apply Blk.set_) | ((with_reducible apply Blk.far); rotate_left; focus (first | (simp; done) | (simp; omega) | omega)))) hb
  obtain ⟨c0, c1, c2, c3, cz⟩ := cells4 C
  have cl := Blk.lt C
  have HC := Lib.hid C
  clear C
  clear hb x0 x1 x2 x3 xz xl HX y0 y1 y2 y3 yz yl HY hE
  go_wp2_with fail
  refine wp_region_below (by kernel_rfl) (by kernel_rfl) ?_
  repeat
    with_reducible refine wpQuiet_step (fun K hK => ?_)
    first
      | refine quiet_not (by rfl) (hK _ ?_)
      | refine quiet_any (by rfl) ?_
        apply Exists.intro
        refine ⟨fun wq hq => ?_, hK _ ?_⟩
        · obtain ⟨qc, _⟩ := bcell hq.out
          go_simp
          first
            | done
            | (with_reducible rfl)
            | (first | (go_at_call 22; with_reducible exact call_in hq.out (refSame_refl t (topR_step TC.out (by repeat (first | (with_reducible exact Below.refl _ _) | (with_reducible exact Below.refl _ _) | (with_reducible apply Below.drew) | (with_reducible apply below_alloc) | ((with_reducible refine Below.alloc ?_ ?_ _); rotate_left; focus (first | (simp; done) | (simp; omega) | omega)) | ((with_reducible refine Below.setCell ?_ ?_ _); rotate_left; focus (first | (simp; done) | (simp; omega) | omega)))) hq.out) (topR_step T.out (by repeat (first | (with_reducible exact Below.refl _ _) | (with_reducible exact Below.refl _ _) | (with_reducible apply Below.drew) | (with_reducible apply below_alloc) | ((with_reducible refine Below.alloc ?_ ?_ _); rotate_left; focus (first | (simp; done) | (simp; omega) | omega)) | ((with_reducible refine Below.setCell ?_ ?_ _); rotate_left; focus (first | (simp; done) | (simp; omega) | omega)))) hq.out))) | (go_at_call 29; with_reducible exact call_in hq.out (topSame_q (topR_step T.out (by repeat (first | (with_reducible exact Below.refl _ _) | (with_reducible exact Below.refl _ _) | (with_reducible apply Below.drew) | (with_reducible apply below_alloc) | ((with_reducible refine Below.alloc ?_ ?_ _); rotate_left; focus (first | (simp; done) | (simp; omega) | omega)) | ((with_reducible refine Below.setCell ?_ ?_ _); rotate_left; focus (first | (simp; done) | (simp; omega) | omega)))) hq.out) (topR_step TQ.out (by repeat (first | (with_reducible exact Below.refl _ _) | (with_reducible exact Below.refl _ _) | (with_reducible apply Below.drew) | (with_reducible apply below_alloc) | ((with_reducible refine Below.alloc ?_ ?_ _); rotate_left; focus (first | (simp; done) | (simp; omega) | omega)) | ((with_reducible refine Below.setCell ?_ ?_ _); rotate_left; focus (first | (simp; done) | (simp; omega) | omega)))) hq.out) HQS.out)) | (go_at_call 22; with_reducible exact call_in hq.out (refSame_q (topR_step T.out (by repeat (first | (with_reducible exact Below.refl _ _) | (with_reducible exact Below.refl _ _) | (with_reducible apply Below.drew) | (with_reducible apply below_alloc) | ((with_reducible refine Below.alloc ?_ ?_ _); rotate_left; focus (first | (simp; done) | (simp; omega) | omega)) | ((with_reducible refine Below.setCell ?_ ?_ _); rotate_left; focus (first | (simp; done) | (simp; omega) | omega)))) hq.out) (topR_step TQ.out (by repeat (first | (with_reducible exact Below.refl _ _) | (with_reducible exact Below.refl _ _) | (with_reducible apply Below.drew) | (with_reducible apply below_alloc) | ((with_reducible refine Below.alloc ?_ ?_ _); rotate_left; focus (first | (simp; done) | (simp; omega) | omega)) | ((with_reducible refine Below.setCell ?_ ?_ _); rotate_left; focus (first | (simp; done) | (simp; omega) | omega)))) hq.out) HQS.out)) | (go_at_call 29; with_reducible exact call_in hq.out (topSame_refl t (topR_step TM.out (by repeat (first | (with_reducible exact Below.refl _ _) | (with_reducible exact Below.refl _ _) | (with_reducible apply Below.drew) | (with_reducible apply below_alloc) | ((with_reducible refine Below.alloc ?_ ?_ _); rotate_left; focus (first | (simp; done) | (simp; omega) | omega)) | ((with_reducible refine Below.setCell ?_ ?_ _); rotate_left; focus (first | (simp; done) | (simp; omega) | omega)))) hq.out) (topR_step T.out (by repeat (first | (with_reducible exact Below.refl _ _) | (with_reducible exact Below.refl _ _) | (with_reducible apply Below.drew) | (with_reducible apply below_alloc) | ((with_reducible refine Below.alloc ?_ ?_ _); rotate_left; focus (first | (simp; done) | (simp; omega) | omega)) | ((with_reducible refine Below.setCell ?_ ?_ _); rotate_left; focus (first | (simp; done) | (simp; omega) | omega)))) hq.out))) | (go_at_call 35; exact call_in hq.out (new_any wq)) | (go_at_call 22; exact call_in hq.out (refSame_refl Top.zero (topR_zero wq) (topR_zero wq))))
    clear hK K
    simp only [Act.put, List.setIfInBounds_toArray, List.set_cons_zero, List.set_cons_succ]
  refine wpQuiet_nil ?_
  intro w10 hb
  replace HB : Hid (Below w.heap.size w _) := below_step (by repeat (first | (with_reducible exact HB.out) | (with_reducible exact Below.refl _ _) | (with_reducible apply Below.drew) | (with_reducible apply below_alloc) | ((with_reducible refine Below.alloc ?_ ?_ _); rotate_left; focus (first | (simp; done) | (simp; omega) | omega)) | ((with_reducible refine Below.setCell ?_ ?_ _); rotate_left; focus (first | (simp; done) | (simp; omega) | omega)))) hb
  clear a0 a1 a2 a3 az al
  replace HA : Hid (Blk _ (w.heap.size) _ _) := Blk.step (by repeat (first | (with_reducible exact HA.out) | ((with_reducible apply Blk.new); focus (first | rfl | (simp; done) | (simp; omega))) | (with_reducible apply Blk.drew) | (with_reducible apply Blk.alloc) | (with_reducible apply Blk.set_) | ((with_reducible apply Blk.far); rotate_left; focus (first | (simp; done) | (simp; omega) | omega)))) hb
  obtain ⟨a0, a1, a2, a3, az⟩ := cells4 HA.out
  have al := Blk.lt HA.out
  clear m0 m1 m2 m3 mz ml
  replace HM : Hid (Blk _ (w3.heap.size) _ _) := Blk.step (by repeat (first | (with_reducible exact HM.out) | ((with_reducible apply Blk.new); focus (first | rfl | (simp; done) | (simp; omega))) | (with_reducible apply Blk.drew) | (with_reducible apply Blk.alloc) | (with_reducible apply Blk.set_) | ((with_reducible apply Blk.far); rotate_left; focus (first | (simp; done) | (simp; omega) | omega)))) hb
  obtain ⟨m0, m1, m2, m3, mz⟩ := cells4 HM.out
  have ml := Blk.lt HM.out
  clear u0 u1 u2 u3 uz ul
  replace HU : Hid (Blk _ (w4.heap.size) _ _) := Blk.step (by repeat (first | (with_reducible exact HU.out) | ((with_reducible apply Blk.new); focus (first | rfl | (simp; done) | (simp; omega))) | (with_reducible apply Blk.drew) | (with_reducible apply Blk.alloc) | (with_reducible apply Blk.set_) | ((with_reducible apply Blk.far); rotate_left; focus (first | (simp; done) | (simp; omega) | omega)))) hb
  obtain ⟨u0, u1, u2, u3, uz⟩ := cells4 HU.out
  have ul := Blk.lt HU.out
  clear c0 c1 c2 c3 cz cl
  replace HC : Hid (Blk _ (w8.heap.size) _ _) := Blk.step (by repeat (first | (with_reducible exact HC.out) | ((with_reducible apply Blk.new); focus (first | rfl | (simp; done) | (simp; omega))) | (with_reducible apply Blk.drew) | (with_reducible apply Blk.alloc) | (with_reducible apply Blk.set_) | ((with_reducible apply Blk.far); rotate_left; focus (first | (simp; done) | (simp; omega) | omega)))) hb
  obtain ⟨c0, c1, c2, c3, cz⟩ := cells4 HC.out
  have cl := Blk.lt HC.out
  replace OU : Hid (OwnE _ _ _ _) := own_step (by repeat (first | (with_reducible exact OU.out) | (with_reducible apply own_drew) | (with_reducible apply own_alloc) | ((with_reducible apply own_set); rotate_left; focus (first | (simp; done) | (simp; omega) | omega)))) hb
  replace OC : Hid (OwnE _ _ _ _) := own_step (by repeat (first | (with_reducible exact OC.out) | (with_reducible apply own_drew) | (with_reducible apply own_alloc) | ((with_reducible apply own_set); rotate_left; focus (first | (simp; done) | (simp; omega) | omega)))) hb
  replace H3 : Hid (Below w3.heap.size w3 _) := below_step (by repeat (first | (with_reducible exact H3.out) | (with_reducible exact Below.refl _ _) | (with_reducible apply Below.drew) | (with_reducible apply below_alloc) | ((with_reducible refine Below.alloc ?_ ?_ _); rotate_left; focus (first | (simp; done) | (simp; omega) | omega)) | ((with_reducible refine Below.setCell ?_ ?_ _); rotate_left; focus (first | (simp; done) | (simp; omega) | omega)))) hb
  have RU := Lib.hid (Row4.of OU.out)
  have RC := Lib.hid (Row4.of OC.out)
  have hlu := addP_len HADD.out
  have n1 : (u.ents.length : Int) ≤ 200 := by omega
  have n2 : (t.ents.length : Int) ≤ 1000 := by have := HL3.out; omega
  clear hb q0 q1 q2 q3 qz ql HQ v0 v1 v2 v3 vz vl HV OU OC hlu TU TC TV TM TQ T hG
  go_wp2_with fail
  go_loopg [27] u.ents.length (fun g i wr => ∃ k : Nat, k ≤ u.ents.length ∧ g = u.ents.length - k ∧ i = .int .i64 (k : Int) ∧ Hid (Row4 wr (w3.heap.size + 1) u.ents.length (.slice adr4 u.ents.length cap4)) ∧ Hid (Row4 wr (w7.heap.size + 1) t.ents.length (.slice adr8 t.ents.length cap8)) ∧ Hid (Below w3.heap.size w3 wr) ∧ Hid (Below w.heap.size w wr) ∧
    Hid (Blk wr w.heap.size 24 [.int .i64 t.base, .int .i64 t.next, .int .i64 t.mark, .slice a t.ents.length cap]) ∧
    Hid (Blk wr w3.heap.size 24 [.int .i64 t.base, .int .i64 t.next, .int .i64 t.mark, .slice adr3 t.ents.length cap3]) ∧
    Hid (Blk wr w4.heap.size 24 [.int .i64 u.base, .int .i64 u.next, .int .i64 u.mark, .slice adr4 u.ents.length cap4]) ∧
    Hid (Blk wr w8.heap.size 24 [.int .i64 t.base, .int .i64 t.next, .int .i64 t.mark, .slice adr8 t.ents.length cap8]))
  case atStart => exact ⟨0, Nat.zero_le _, rfl, rfl, RU, RC, H3, HB, HA, HM, HU, HC⟩
  case round =>
    clear RU RC H3 HB HA HM HU HC
    obtain ⟨k, hk, rfl, rfl, RU, RC, H3, HB, HA, HM, HU, HC⟩ := hrel
    clear u0 u1 u2 u3 uz ul a0 a1 a2 a3 az al m0 m1 m2 m3 mz ml c0 c1 c2 c3 cz cl
    obtain ⟨u0, u1, u2, u3, uz⟩ := cells4 HU.out
    obtain ⟨c0, c1, c2, c3, cz⟩ := cells4 HC.out
    have ul := HU.out.lt
    have cl := HC.out.lt
    by_cases hlt : k < u.ents.length
    · have hk0 : (0 : Int) ≤ (k : Int) := by omega
      have hk1 : (k : Int) < (u.ents.length : Int) := by omega
      obtain ⟨g, uu, ha, hg1, hg2, hnc, hcm, hcell, hfz, hst⟩ := RU.out.at_ hlt
      obtain ⟨_, hg3⟩ := HGU.out g 0 ha
      have HAG := Lib.hid ha
      subst ha
      unfold maxLen at hcm
      have HST := Lib.hid (hst (.string ⟨#[119, 114, 105, 116, 116, 101, 110, 32, 111, 118, 101, 114]⟩))
      clear hst
      go_wp2_with fail
      go_roundg (u.ents.length - (k + 1))
      case measure => omega
      case rel =>
        refine ⟨k + 1, by omega, rfl, by go_num, HST.out, RC.out.set_ (by omega), ?_, ?_, ?_, ?_, ?_, ?_⟩
        · exact H3.out.setCell (p := ⟨g, _, none⟩) (show w3.heap.size ≤ g by omega) _
        · exact HB.out.setCell (p := ⟨g, _, none⟩) (show w.heap.size ≤ g by omega) _
        · exact HA.out.far (by omega) _
        · exact HM.out.far (by omega) _
        · exact HU.out.far (by omega) _
        · exact HC.out.far (by omega) _
    · obtain rfl : k = u.ents.length := by omega
      have hlt' : ¬ (u.ents.length : Int) < (u.ents.length : Int) := by omega
      go_wp2_with fail
      clear u0 u1 u2 u3 uz ul c0 c1 c2 c3 cz cl
      go_loopg [28] t.ents.length (fun g i wr => ∃ k : Nat, k ≤ t.ents.length ∧ g = t.ents.length - k ∧ i = .int .i64 (k : Int) ∧ Hid (Row4 wr (w7.heap.size + 1) t.ents.length (.slice adr8 t.ents.length cap8)) ∧ Hid (Below w3.heap.size w3 wr) ∧ Hid (Below w.heap.size w wr) ∧
        Hid (Blk wr w.heap.size 24 [.int .i64 t.base, .int .i64 t.next, .int .i64 t.mark, .slice a t.ents.length cap]) ∧
        Hid (Blk wr w3.heap.size 24 [.int .i64 t.base, .int .i64 t.next, .int .i64 t.mark, .slice adr3 t.ents.length cap3]) ∧
        Hid (Blk wr w8.heap.size 24 [.int .i64 t.base, .int .i64 t.next, .int .i64 t.mark, .slice adr8 t.ents.length cap8]))
      case atStart => exact ⟨0, Nat.zero_le _, rfl, rfl, RC, H3, HB, HA, HM, HC⟩
      case round =>
        clear RU RC H3 HB HA HM HU HC
        obtain ⟨k, hk, rfl, rfl, RC, H3, HB, HA, HM, HC⟩ := hrel
        obtain ⟨c0, c1, c2, c3, cz⟩ := cells4 HC.out
        obtain ⟨a0, a1, a2, a3, az⟩ := cells4 HA.out
        obtain ⟨m0, m1, m2, m3, mz⟩ := cells4 HM.out
        have cl := HC.out.lt
        by_cases hlt : k < t.ents.length
        · have hk0 : (0 : Int) ≤ (k : Int) := by omega
          have hk1 : (k : Int) < (t.ents.length : Int) := by omega
          obtain ⟨g, uu, ha, hg1, hg2, hnc, hcm, hcell, hfz, hst⟩ := RC.out.at_ hlt
          obtain ⟨_, hg3⟩ := HGC.out g 0 ha
          subst ha
          unfold maxLen at hcm
          have HST := Lib.hid (hst (.string ⟨#[119, 114, 105, 116, 116, 101, 110, 32, 111, 118, 101, 114]⟩))
          clear hst
          go_wp2_with fail
          go_roundg (t.ents.length - (k + 1))
          case measure => omega
          case rel =>
            refine ⟨k + 1, by omega, rfl, by go_num, HST.out, ?_, ?_, ?_, ?_, ?_⟩
            · exact H3.out.setCell (p := ⟨g, _, none⟩) (show w3.heap.size ≤ g by omega) _
            · exact HB.out.setCell (p := ⟨g, _, none⟩) (show w.heap.size ≤ g by omega) _
            · exact HA.out.far (by omega) _
            · exact HM.out.far (by omega) _
            · exact HC.out.far (by omega) _
        · obtain rfl : k = t.ents.length := by omega
          have hlt' : ¬ (t.ents.length : Int) < (t.ents.length : Int) := by omega
          go_wp2_with fail
          refine Calls.mono (refSame_refl t ?_ ?_) ?_
          · exact TM3.out.below H3.out
          · exact T0.out.below HB.out
          rintro e w11 ⟨rfl, hb⟩
          replace HB : Hid (Below w.heap.size w _) := below_step (by repeat (first | (with_reducible exact HB.out) | (with_reducible exact Below.refl _ _) | (with_reducible apply Below.drew) | (with_reducible apply below_alloc) | ((with_reducible refine Below.alloc ?_ ?_ _); rotate_left; focus (first | (simp; done) | (simp; omega) | omega)) | ((with_reducible refine Below.setCell ?_ ?_ _); rotate_left; focus (first | (simp; done) | (simp; omega) | omega)))) hb
          go_wp2_with fail
          go_ret
          exact ⟨rfl, HB.out⟩

theorem own : ownKnob Try.prog.godebug = none := by kernel_rfl

set_option maxRecDepth 100000 in
set_option linter.unusedVariables false in
theorem lifted (os : Os) (started : os.Started) (H : Type) (enc : TypeId × Value → H) :
    ReturnsInHanded {} Try.checked os 9 .any (Rows.topicGoesSpec.pre6 enc Try.prog Try.f9 Rows.topicGoesRow.domain false) (Rows.topicGoesSpec.post enc Try.prog Try.f9 false true false false) := by
  refine returnsInHanded_of_change_sized (C := Try.checked) own started (by kernel_rfl) Try.func9
    (ChangeSpec.witness6 (enc := enc) (C := Try.checked) false ⟨#[], #[.agg #[.int .i64 0, .int .i64 0, .int .i64 0, .slice none 0 0], .agg #[.int .i64 0, .int .i64 0, .int .i64 0, .slice none 0 0], .int .i64 0, .string ByteArray.empty, .string ByteArray.empty, .int .i64 0], []⟩ 8 (by kernel_rfl) (by kernel_rfl) (by kernel_rfl) (by kernel_rfl)) ?_
  intro W base args ds gs before hval0 hW hcnd hsz0 hholds
  have hsz : (DataW.weightsEach Try.prog (Try.f9.params.toList ++ Rows.topicGoesSpec.plain.varTypes Try.prog) (ds ++ gs)).all (· ≤ reachBytes) = true := hsz0
  have hval : ∀ (j : Nat) t v, Try.f9.params[j]? = some t → args[j]? = some v → Value.okWide Try.prog W .any base t v := hval0
  have hW' := hW
  obtain ⟨p, q, hA0, hV, _, hfz, _⟩ := hW
  have hA : DataW.TrodAll enc Try.prog W 0 (fun _ => true) true Try.f9.params.toList args.toList ds p := hA0
  rw [Try.params9] at hA hval hsz
  obtain ⟨v0, vs0, d0, ds0, p0, q0, hargs, rfl, rfl, h0, r0⟩ := trodAll_cons hA
  obtain ⟨v1, vs1, d1, ds1, p1, q1, rfl, rfl, rfl, h1, r1⟩ := trodAll_cons r0
  obtain ⟨v2, vs2, d2, ds2, p2, q2, rfl, rfl, rfl, h2, r2⟩ := trodAll_cons r1
  obtain ⟨v3, vs3, d3, ds3, p3, q3, rfl, rfl, rfl, h3, r3⟩ := trodAll_cons r2
  obtain ⟨v4, vs4, d4, ds4, p4, q4, rfl, rfl, rfl, h4, r4⟩ := trodAll_cons r3
  obtain ⟨v5, vs5, d5, ds5, p5, q5, rfl, rfl, rfl, h5, r5⟩ := trodAll_cons r4
  obtain ⟨rfl, rfl, rfl⟩ := trodAll_nil r5
  obtain rfl : args = #[v0, v1, v2, v3, v4, v5] := by cases args; simp_all
  obtain ⟨rfl, _⟩ := trodVars_none hV
  have hwt : ∀ (j : Nat) (t : TypeId) (d : DataW H), (_ : List TypeId)[j]? = some t → (_ : List (DataW H))[j]? = some d → ∀ n ∈ d.weights Try.prog t, n ≤ reachBytes := fun j t d ht hd n hn => by simpa using List.all_eq_true.1 hsz n (DataW.weights_mem_each ht hd n hn)
  obtain ⟨t0, R0⟩ := open_topic (hval 0 _ v0 rfl rfl) h0 (hwt 0 _ _ rfl rfl) ⟨Try.underlying24, cells_top, Try.underlying22, cells_ents, Try.underlying38, cells_ent, Try.underlying3, cells_int, Try.underlying9, cells_str, ⟨rfl, rfl⟩, ⟨rfl, rfl⟩, ⟨rfl, rfl⟩, ⟨rfl, rfl⟩, ⟨rfl, rfl⟩, ⟨rfl, rfl⟩, ⟨rfl, rfl⟩, ⟨rfl, rfl⟩⟩
  obtain ⟨t1, R1⟩ := open_topic (hval 1 _ v1 rfl rfl) h1 (hwt 1 _ _ rfl rfl) ⟨Try.underlying24, cells_top, Try.underlying22, cells_ents, Try.underlying38, cells_ent, Try.underlying3, cells_int, Try.underlying9, cells_str, ⟨rfl, rfl⟩, ⟨rfl, rfl⟩, ⟨rfl, rfl⟩, ⟨rfl, rfl⟩, ⟨rfl, rfl⟩, ⟨rfl, rfl⟩, ⟨rfl, rfl⟩, ⟨rfl, rfl⟩⟩
  obtain ⟨a2, rfl, rfl, _, w2⟩ := open_int Try.underlying3 (hval 2 _ v2 rfl rfl) h2
  obtain ⟨s3, rfl, rfl, _, z3⟩ := open_string Try.underlying9 (hval 3 _ v3 rfl rfl) h3
  obtain ⟨s4, rfl, rfl, _, z4⟩ := open_string Try.underlying9 (hval 4 _ v4 rfl rfl) h4
  obtain ⟨a5, rfl, rfl, _, w5⟩ := open_int Try.underlying3 (hval 5 _ v5 rfl rfl) h5
  refine (walk a2 s3 s4 a5 R0.1 R0.2.1 R1.1 R1.2.1).mono fun e W' ⟨he, hb⟩ => ?_
  subst he
  exact ⟨_, rfl, law_post hW' rfl rfl rfl Try.underlying4 (by kernel_rfl) (by kernel_rfl) hb⟩

theorem over : Rows.topicGoesRow.holds Try.pinned (OpenSpec.ofChange Rows.topicGoesSpec) :=
  OpenClaim.holds_of_wide 9 Try.f9 rfl rfl rfl rfl rfl rfl rfl ⟨rfl, rfl, rfl, rfl, rfl⟩ rfl rfl rfl rfl rfl (by kernel_rfl) Try.func9 (by kernel_rfl)
    (of_decide_eq_true (by kernel_rfl)) (by unfold Func.isWrapper; rw [if_neg (of_decide_eq_false (by kernel_rfl))]; exact ⟨rfl, rfl⟩)
    (fun os started H enc _ => lifted os started H enc)

theorem proved : Rows.TopicGoesSaid := over
#print axioms proved

end Go.Proofs.Ytolgkadoplalnaa.TopicGoes
