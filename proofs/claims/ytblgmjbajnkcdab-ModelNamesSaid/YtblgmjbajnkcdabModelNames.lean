/-
  The given statement ModelNames: the limit and the chapter's examples. No condition.
-/
import Derived.Test.YtblgmjbajnkcdabRows
import Derived.Test.YtblgmjbajnkcdabChecked
import Derived.Test.YtblgmjbajnkcdabLaw
import Derived.Test.YtblgmjbajnkcdabMdlTwo
import Derived.Test.YtblgmjbajnkcdabMdlOne
import Derived.Test.YtblgmjbajnkcdabMdlStream
import Derived.Test.YtblgmjbajnkcdabBunS
import Derived.Deep.RegionHeld3
import Derived.KernelRfl
import Derived.ChangeMaps5
namespace Go.Proofs.Ytblgmjbajnkcdab.ModelNames
open Go.RowKit Go.ChangeShapes Go.WideShapes Go.ChangeAt Go.ChangeMaps

theorem e1 : streamE newM = (newS, 0) := by rw [streamE, if_pos may_newM]; rfl
theorem e2 : endM mB 1 = (2, 0) := by rw [endM, if_pos askm_B]; rfl
theorem e3 : endM mB 4 = (0, 2) := by rw [endM, show askM mB 4 = 2 by decide +kernel]; rfl
theorem e4 : doM mB 4 1 0 3 = (Mdl.zero, 170) := by rw [doM, if_pos may_mB, if_neg (by decide), if_pos rfl, if_pos (by decide +kernel)]
theorem e5 : (8 : Int) = if mayM Mdl.zero then 0 else 8 := by decide +kernel
theorem zero_few : few Mdl.zero.coms := ⟨Nat.zero_le _, fun _ h => by cases h⟩
theorem psame {v v' : Value} (s : Str) {w : World} (h : StrR w v s) (h' : StrR w v' s) :
    Calls Try.prog 33 #[v, v'] w fun e w' => e = .returned (.bool true) ∧ Below w.heap.size w w' := strSame_any h h' (by simp)

set_option maxHeartbeats 8000000 in
set_option maxRecDepth 100000 in
theorem walk (w : World) : Calls Try.prog 5 #[] w (LawEnd w) := by
  have KB := Lib.hid (okC_few may_mB.2.1)
  have KN := Lib.hid (okC_few may_newM.2.1)
  go_enter Try.func5, Try.ntmps5
  go_wp2_with fail
  refine Calls.mono (mdlTwo_any _) ?_
  rintro e w1 ⟨ta, tc, rfl, os, hb⟩
  obtain ⟨a1, cap1, b1, nc1, cc1, ev, -, -⟩ := os.reads.shape
  cases ev
  have HB : Hid (Below w.heap.size w _) := below_step (by repeat (first | (with_reducible exact Below.refl _ _) | (with_reducible exact Below.refl _ _) | (with_reducible apply Below.drew) | (with_reducible apply below_alloc) | ((with_reducible refine Below.alloc ?_ ?_ _); rotate_left; focus (first | (simp; done) | (simp; omega) | omega)) | ((with_reducible refine Below.setCell ?_ ?_ _); rotate_left; focus (first | (simp; done) | (simp; omega) | omega)))) hb
  have S1 : Hid (MdlR w1 _ mB) := Lib.hid os.reads
  clear hb os
  go_wp2_with fail
  refine Calls.mono (mdlNew_any _) ?_
  rintro e w2 ⟨ta2, tc2, rfl, os2, hb⟩
  obtain ⟨a2, cap2, b2, nc2, cc2, ev, -, -⟩ := os2.reads.shape
  cases ev
  replace HB : Hid (Below w.heap.size w _) := below_step (by repeat (first | (with_reducible exact HB.out) | (with_reducible exact Below.refl _ _) | (with_reducible apply Below.drew) | (with_reducible apply below_alloc) | ((with_reducible refine Below.alloc ?_ ?_ _); rotate_left; focus (first | (simp; done) | (simp; omega) | omega)) | ((with_reducible refine Below.setCell ?_ ?_ _); rotate_left; focus (first | (simp; done) | (simp; omega) | omega)))) hb
  replace S1 : Hid (MdlR _ _ _) := mdlR_step S1.out (by repeat (first | (with_reducible exact Below.refl _ _) | (with_reducible exact Below.refl _ _) | (with_reducible apply Below.drew) | (with_reducible apply below_alloc) | ((with_reducible refine Below.alloc ?_ ?_ _); rotate_left; focus (first | (simp; done) | (simp; omega) | omega)) | ((with_reducible refine Below.setCell ?_ ?_ _); rotate_left; focus (first | (simp; done) | (simp; omega) | omega)))) hb
  have A : Blk _ (w1.heap.size) _ _ := Blk.step (by repeat (first | ((with_reducible apply Blk.new); focus (first | rfl | (simp; done) | (simp; omega))) | (with_reducible apply Blk.drew) | (with_reducible apply Blk.alloc) | (with_reducible apply Blk.set_) | ((with_reducible apply Blk.far); rotate_left; focus (first | (simp; done) | (simp; omega) | omega)))) hb
  obtain ⟨a0, a1, az⟩ := cells2 A
  have al := Blk.lt A
  have HA := Lib.hid A
  clear A
  have N2 : Hid (MdlR w2 _ newM) := Lib.hid os2.reads
  have s2 : w1.heap.size < w2.heap.size := al
  clear hb os2
  go_wp2_with fail
  refine Calls.mono (mdlStream_any ?_ KN.out e1) ?_
  · exact N2.out.below (by repeat (first | (with_reducible exact Below.refl _ _) | (with_reducible exact Below.refl _ _) | (with_reducible apply Below.drew) | (with_reducible apply below_alloc) | ((with_reducible refine Below.alloc ?_ ?_ _); rotate_left; focus (first | (simp; done) | (simp; omega) | omega)) | ((with_reducible refine Below.setCell ?_ ?_ _); rotate_left; focus (first | (simp; done) | (simp; omega) | omega))))
  rintro e w3 ⟨ta3, tc3, rfl, os3, hb⟩
  obtain ⟨a3, cap3, b3, nc3, cc3, ev, -, -⟩ := os3.reads.shape
  cases ev
  replace HB : Hid (Below w.heap.size w _) := below_step (by repeat (first | (with_reducible exact HB.out) | (with_reducible exact Below.refl _ _) | (with_reducible apply Below.drew) | (with_reducible apply below_alloc) | ((with_reducible refine Below.alloc ?_ ?_ _); rotate_left; focus (first | (simp; done) | (simp; omega) | omega)) | ((with_reducible refine Below.setCell ?_ ?_ _); rotate_left; focus (first | (simp; done) | (simp; omega) | omega)))) hb
  replace S1 : Hid (MdlR _ _ _) := mdlR_step S1.out (by repeat (first | (with_reducible exact Below.refl _ _) | (with_reducible exact Below.refl _ _) | (with_reducible apply Below.drew) | (with_reducible apply below_alloc) | ((with_reducible refine Below.alloc ?_ ?_ _); rotate_left; focus (first | (simp; done) | (simp; omega) | omega)) | ((with_reducible refine Below.setCell ?_ ?_ _); rotate_left; focus (first | (simp; done) | (simp; omega) | omega)))) hb
  clear a0 a1 az al
  replace HA : Hid (Blk _ (w1.heap.size) _ _) := Blk.step (by repeat (first | (with_reducible exact HA.out) | ((with_reducible apply Blk.new); focus (first | rfl | (simp; done) | (simp; omega))) | (with_reducible apply Blk.drew) | (with_reducible apply Blk.alloc) | (with_reducible apply Blk.set_) | ((with_reducible apply Blk.far); rotate_left; focus (first | (simp; done) | (simp; omega) | omega)))) hb
  obtain ⟨a0, a1, az⟩ := cells2 HA.out
  have al := Blk.lt HA.out
  have ST : Hid (StrR w3 _ newS) := Lib.hid os3.reads
  have s3 : w1.heap.size < w3.heap.size := al
  clear hb os3 N2
  go_wp2_with fail
  refine Calls.mono (mdlEnd_any 1 ?_ KB.out e2) ?_
  · exact S1.out.below (by repeat (first | (with_reducible exact Below.refl _ _) | (with_reducible exact Below.refl _ _) | (with_reducible apply Below.drew) | (with_reducible apply below_alloc) | ((with_reducible refine Below.alloc ?_ ?_ _); rotate_left; focus (first | (simp; done) | (simp; omega) | omega)) | ((with_reducible refine Below.setCell ?_ ?_ _); rotate_left; focus (first | (simp; done) | (simp; omega) | omega))))
  rintro e w4 ⟨rfl, hb⟩
  replace HB : Hid (Below w.heap.size w _) := below_step (by repeat (first | (with_reducible exact HB.out) | (with_reducible exact Below.refl _ _) | (with_reducible apply Below.drew) | (with_reducible apply below_alloc) | ((with_reducible refine Below.alloc ?_ ?_ _); rotate_left; focus (first | (simp; done) | (simp; omega) | omega)) | ((with_reducible refine Below.setCell ?_ ?_ _); rotate_left; focus (first | (simp; done) | (simp; omega) | omega)))) hb
  replace S1 : Hid (MdlR _ _ _) := mdlR_step S1.out (by repeat (first | (with_reducible exact Below.refl _ _) | (with_reducible exact Below.refl _ _) | (with_reducible apply Below.drew) | (with_reducible apply below_alloc) | ((with_reducible refine Below.alloc ?_ ?_ _); rotate_left; focus (first | (simp; done) | (simp; omega) | omega)) | ((with_reducible refine Below.setCell ?_ ?_ _); rotate_left; focus (first | (simp; done) | (simp; omega) | omega)))) hb
  clear a0 a1 az al
  replace HA : Hid (Blk _ (w1.heap.size) _ _) := Blk.step (by repeat (first | (with_reducible exact HA.out) | ((with_reducible apply Blk.new); focus (first | rfl | (simp; done) | (simp; omega))) | (with_reducible apply Blk.drew) | (with_reducible apply Blk.alloc) | (with_reducible apply Blk.set_) | ((with_reducible apply Blk.far); rotate_left; focus (first | (simp; done) | (simp; omega) | omega)))) hb
  obtain ⟨a0, a1, az⟩ := cells2 HA.out
  have al := Blk.lt HA.out
  replace ST : Hid (StrR _ _ _) := strR_step ST.out (by repeat (first | (with_reducible exact Below.refl _ _) | (with_reducible exact Below.refl _ _) | (with_reducible apply Below.drew) | (with_reducible apply below_alloc) | ((with_reducible refine Below.alloc ?_ ?_ _); rotate_left; focus (first | (simp; done) | (simp; omega) | omega)) | ((with_reducible refine Below.setCell ?_ ?_ _); rotate_left; focus (first | (simp; done) | (simp; omega) | omega)))) hb
  have U : Blk _ (w3.heap.size) _ _ := Blk.step (by repeat (first | ((with_reducible apply Blk.new); focus (first | rfl | (simp; done) | (simp; omega))) | (with_reducible apply Blk.drew) | (with_reducible apply Blk.alloc) | (with_reducible apply Blk.set_) | ((with_reducible apply Blk.far); rotate_left; focus (first | (simp; done) | (simp; omega) | omega)))) hb
  obtain ⟨u0, u1, uz⟩ := cells2 U
  have ul := Blk.lt U
  have HU := Lib.hid U
  clear U
  have s4 : w1.heap.size < w4.heap.size ∧ w3.heap.size < w4.heap.size := ⟨al, ul⟩
  clear hb
  go_wp2_with fail
  refine Calls.mono (mdlEnd_any 4 ?_ KB.out e3) ?_
  · exact S1.out.below (by repeat (first | (with_reducible exact Below.refl _ _) | (with_reducible exact Below.refl _ _) | (with_reducible apply Below.drew) | (with_reducible apply below_alloc) | ((with_reducible refine Below.alloc ?_ ?_ _); rotate_left; focus (first | (simp; done) | (simp; omega) | omega)) | ((with_reducible refine Below.setCell ?_ ?_ _); rotate_left; focus (first | (simp; done) | (simp; omega) | omega))))
  rintro e w5 ⟨rfl, hb⟩
  replace HB : Hid (Below w.heap.size w _) := below_step (by repeat (first | (with_reducible exact HB.out) | (with_reducible exact Below.refl _ _) | (with_reducible apply Below.drew) | (with_reducible apply below_alloc) | ((with_reducible refine Below.alloc ?_ ?_ _); rotate_left; focus (first | (simp; done) | (simp; omega) | omega)) | ((with_reducible refine Below.setCell ?_ ?_ _); rotate_left; focus (first | (simp; done) | (simp; omega) | omega)))) hb
  replace S1 : Hid (MdlR _ _ _) := mdlR_step S1.out (by repeat (first | (with_reducible exact Below.refl _ _) | (with_reducible exact Below.refl _ _) | (with_reducible apply Below.drew) | (with_reducible apply below_alloc) | ((with_reducible refine Below.alloc ?_ ?_ _); rotate_left; focus (first | (simp; done) | (simp; omega) | omega)) | ((with_reducible refine Below.setCell ?_ ?_ _); rotate_left; focus (first | (simp; done) | (simp; omega) | omega)))) hb
  clear a0 a1 az al
  replace HA : Hid (Blk _ (w1.heap.size) _ _) := Blk.step (by repeat (first | (with_reducible exact HA.out) | ((with_reducible apply Blk.new); focus (first | rfl | (simp; done) | (simp; omega))) | (with_reducible apply Blk.drew) | (with_reducible apply Blk.alloc) | (with_reducible apply Blk.set_) | ((with_reducible apply Blk.far); rotate_left; focus (first | (simp; done) | (simp; omega) | omega)))) hb
  obtain ⟨a0, a1, az⟩ := cells2 HA.out
  have al := Blk.lt HA.out
  clear u0 u1 uz ul
  replace HU : Hid (Blk _ (w3.heap.size) _ _) := Blk.step (by repeat (first | (with_reducible exact HU.out) | ((with_reducible apply Blk.new); focus (first | rfl | (simp; done) | (simp; omega))) | (with_reducible apply Blk.drew) | (with_reducible apply Blk.alloc) | (with_reducible apply Blk.set_) | ((with_reducible apply Blk.far); rotate_left; focus (first | (simp; done) | (simp; omega) | omega)))) hb
  obtain ⟨u0, u1, uz⟩ := cells2 HU.out
  have ul := Blk.lt HU.out
  replace ST : Hid (StrR _ _ _) := strR_step ST.out (by repeat (first | (with_reducible exact Below.refl _ _) | (with_reducible exact Below.refl _ _) | (with_reducible apply Below.drew) | (with_reducible apply below_alloc) | ((with_reducible refine Below.alloc ?_ ?_ _); rotate_left; focus (first | (simp; done) | (simp; omega) | omega)) | ((with_reducible refine Below.setCell ?_ ?_ _); rotate_left; focus (first | (simp; done) | (simp; omega) | omega)))) hb
  have s5 : w1.heap.size < w5.heap.size ∧ w3.heap.size < w5.heap.size := ⟨al, ul⟩
  clear hb
  go_wp2_with fail
  refine Calls.mono (mdlDo_any 1 0 3 ?_ KB.out e4) ?_
  · exact S1.out.below (by repeat (first | (with_reducible exact Below.refl _ _) | (with_reducible exact Below.refl _ _) | (with_reducible apply Below.drew) | (with_reducible apply below_alloc) | ((with_reducible refine Below.alloc ?_ ?_ _); rotate_left; focus (first | (simp; done) | (simp; omega) | omega)) | ((with_reducible refine Below.setCell ?_ ?_ _); rotate_left; focus (first | (simp; done) | (simp; omega) | omega))))
  rintro e w6 ⟨ta6, tc6, rfl, os6, hb⟩
  obtain ⟨a6, cap6, b6, nc6, cc6, ev, -, -⟩ := os6.reads.shape
  cases ev
  replace HB : Hid (Below w.heap.size w _) := below_step (by repeat (first | (with_reducible exact HB.out) | (with_reducible exact Below.refl _ _) | (with_reducible apply Below.drew) | (with_reducible apply below_alloc) | ((with_reducible refine Below.alloc ?_ ?_ _); rotate_left; focus (first | (simp; done) | (simp; omega) | omega)) | ((with_reducible refine Below.setCell ?_ ?_ _); rotate_left; focus (first | (simp; done) | (simp; omega) | omega)))) hb
  clear u0 u1 uz ul
  replace HU : Hid (Blk _ (w3.heap.size) _ _) := Blk.step (by repeat (first | (with_reducible exact HU.out) | ((with_reducible apply Blk.new); focus (first | rfl | (simp; done) | (simp; omega))) | (with_reducible apply Blk.drew) | (with_reducible apply Blk.alloc) | (with_reducible apply Blk.set_) | ((with_reducible apply Blk.far); rotate_left; focus (first | (simp; done) | (simp; omega) | omega)))) hb
  obtain ⟨u0, u1, uz⟩ := cells2 HU.out
  have ul := Blk.lt HU.out
  replace ST : Hid (StrR _ _ _) := strR_step ST.out (by repeat (first | (with_reducible exact Below.refl _ _) | (with_reducible exact Below.refl _ _) | (with_reducible apply Below.drew) | (with_reducible apply below_alloc) | ((with_reducible refine Below.alloc ?_ ?_ _); rotate_left; focus (first | (simp; done) | (simp; omega) | omega)) | ((with_reducible refine Below.setCell ?_ ?_ _); rotate_left; focus (first | (simp; done) | (simp; omega) | omega)))) hb
  have s6 : w3.heap.size < w6.heap.size := ul
  clear hb os6 a0 a1 az al HA S1
  go_upto_region 6 with fail
  have KC : Hid (∀ W' : World, Below w6.heap.size w6 W' → (W'.cell? ⟨w3.heap.size, 0, none⟩ = some (.slice a3 newS.tops.length cap3) ∧ W'.cell? ⟨w3.heap.size, 1, none⟩ = some (.slice b3 nc3 cc3))) := fun W' hb => by
    have c := fun (p : Addr) (hp : p.block < w6.heap.size) => hb.cell hp
    refine ⟨(c _ ?_).trans u0, (c _ ?_).trans u1⟩ <;> (simp only []; omega)
  have KT2 := KC.out w6 (Below.refl _ _)
  have HR : Hid (Below w6.heap.size w6 w6) := Lib.hid (Below.refl _ _)
  clear u0 u1 uz ul HU
  go_region_held3 (fun W' => (W'.cell? ⟨w3.heap.size, 0, none⟩ = some (.slice a3 newS.tops.length cap3) ∧ W'.cell? ⟨w3.heap.size, 1, none⟩ = some (.slice b3 nc3 cc3)))
    (first | (with_reducible exact KT2) | (refine KC.out _ ?_; (repeat (first | (with_reducible exact HR.out) | (with_reducible exact Below.refl _ _) | (with_reducible apply Below.drew) | (with_reducible apply below_alloc) | ((with_reducible refine Below.alloc ?_ ?_ _); rotate_left; focus (first | (simp; done) | (simp; omega) | omega)) | ((with_reducible refine Below.setCell ?_ ?_ _); rotate_left; focus (first | (simp; done) | (simp; omega) | omega)))); done))
    (first | (go_at_call 33; refine Calls.mono (psame newS (ST.out.below (by repeat (first | (with_reducible exact HR.out) | (with_reducible exact Below.refl _ _) | (with_reducible apply Below.drew) | (with_reducible apply below_alloc) | ((with_reducible refine Below.alloc ?_ ?_ _); rotate_left; focus (first | (simp; done) | (simp; omega) | omega)) | ((with_reducible refine Below.setCell ?_ ?_ _); rotate_left; focus (first | (simp; done) | (simp; omega) | omega))))) (N1.out.below (by repeat (first | (with_reducible exact Below.refl _ _) | (with_reducible exact Below.refl _ _) | (with_reducible apply Below.drew) | (with_reducible apply below_alloc) | ((with_reducible refine Below.alloc ?_ ?_ _); rotate_left; focus (first | (simp; done) | (simp; omega) | omega)) | ((with_reducible refine Below.setCell ?_ ?_ _); rotate_left; focus (first | (simp; done) | (simp; omega) | omega)))))) ?_; rintro e wk ⟨rfl, hb⟩; have HR : Hid (Below w6.heap.size w6 wk) := below_step (by repeat (first | (with_reducible exact HR.out) | (with_reducible exact Below.refl _ _) | (with_reducible apply Below.drew) | (with_reducible apply below_alloc) | ((with_reducible refine Below.alloc ?_ ?_ _); rotate_left; focus (first | (simp; done) | (simp; omega) | omega)) | ((with_reducible refine Below.setCell ?_ ?_ _); rotate_left; focus (first | (simp; done) | (simp; omega) | omega)))) hb; clear hb) | (go_at_call 34; refine Calls.mono (strNew_any _) ?_; rintro e wk ⟨ta, tc, rfl, os, hb⟩; have N1 : Hid (StrR wk _ newS) := Lib.hid os.reads; have HR : Hid (Below w6.heap.size w6 wk) := below_step (by repeat (first | (with_reducible exact HR.out) | (with_reducible exact Below.refl _ _) | (with_reducible apply Below.drew) | (with_reducible apply below_alloc) | ((with_reducible refine Below.alloc ?_ ?_ _); rotate_left; focus (first | (simp; done) | (simp; omega) | omega)) | ((with_reducible refine Below.setCell ?_ ?_ _); rotate_left; focus (first | (simp; done) | (simp; omega) | omega)))) hb; clear hb os) | (go_at_call 32; refine Calls.mono (mdlAlive_any _) ?_; rintro e wk ⟨rfl, hb⟩; have HR : Hid (Below w6.heap.size w6 wk) := below_step (by repeat (first | (with_reducible exact HR.out) | (with_reducible exact Below.refl _ _) | (with_reducible apply Below.drew) | (with_reducible apply below_alloc) | ((with_reducible refine Below.alloc ?_ ?_ _); rotate_left; focus (first | (simp; done) | (simp; omega) | omega)) | ((with_reducible refine Below.setCell ?_ ?_ _); rotate_left; focus (first | (simp; done) | (simp; omega) | omega)))) hb; clear hb) | (go_at_call 25; refine Calls.mono (mdlCheck_any ((OwnM.zero _ 0).reads) zero_few 8 e5) ?_; rintro e wk ⟨rfl, hb⟩; have HR : Hid (Below w6.heap.size w6 wk) := below_step (by repeat (first | (with_reducible exact HR.out) | (with_reducible exact Below.refl _ _) | (with_reducible apply Below.drew) | (with_reducible apply below_alloc) | ((with_reducible refine Below.alloc ?_ ?_ _); rotate_left; focus (first | (simp; done) | (simp; omega) | omega)) | ((with_reducible refine Below.setCell ?_ ?_ _); rotate_left; focus (first | (simp; done) | (simp; omega) | omega)))) hb; clear hb))
  all_goals
    go_wp2_with fail
    go_ret
    exact ⟨rfl, by have h := HB.out; have h2 := HR.out; exact h.trans (h2.mono h.size)⟩

theorem own : ownKnob Try.prog.godebug = none := by kernel_rfl

set_option maxRecDepth 100000 in
set_option linter.unusedVariables false in
theorem lifted (os : Os) (started : os.Started) (H : Type) (enc : TypeId × Value → H) :
    ReturnsInHanded {} Try.checked os 5 .any (Rows.modelNamesSpec.pre6 enc Try.prog Try.f5 Rows.modelNamesRow.domain false) (Rows.modelNamesSpec.post enc Try.prog Try.f5 false true false false) := by
  refine returnsInHanded_of_change_sized (C := Try.checked) own started (by kernel_rfl) Try.func5
    (ChangeSpec.witness6 (enc := enc) (C := Try.checked) false ⟨#[], #[], []⟩ 8 (by kernel_rfl) (by kernel_rfl) (by kernel_rfl) (by kernel_rfl)) ?_
  intro W base args ds gs before hval0 hW hcnd hsz0 hholds
  have hsz : (DataW.weightsEach Try.prog (Try.f5.params.toList ++ Rows.modelNamesSpec.plain.varTypes Try.prog) (ds ++ gs)).all (· ≤ reachBytes) = true := hsz0
  have hval : ∀ (j : Nat) t v, Try.f5.params[j]? = some t → args[j]? = some v → Value.okWide Try.prog W .any base t v := hval0
  have hW' := hW
  obtain ⟨p, q, hA0, hV, _, hfz, _⟩ := hW
  have hA : DataW.TrodAll enc Try.prog W 0 (fun _ => true) true Try.f5.params.toList args.toList ds p := hA0
  rw [Try.params5] at hA hval hsz
  obtain ⟨rfl, rfl, rfl⟩ := trodAll_none hA
  obtain ⟨rfl, _⟩ := trodVars_none hV
  refine (walk _).mono fun e W' ⟨he, hb⟩ => ?_
  subst he
  exact ⟨_, rfl, law_post hW' rfl rfl rfl Try.underlying4 (by kernel_rfl) (by kernel_rfl) hb⟩

theorem over : Rows.modelNamesRow.holds Try.pinned (OpenSpec.ofChange Rows.modelNamesSpec) :=
  OpenClaim.holds_of_wide 5 Try.f5 rfl rfl rfl rfl rfl rfl rfl ⟨rfl, rfl, rfl, rfl, rfl⟩ rfl rfl rfl rfl rfl (by kernel_rfl) Try.func5 (by kernel_rfl)
    (of_decide_eq_true (by kernel_rfl)) (by unfold Func.isWrapper; rw [if_neg (of_decide_eq_false (by kernel_rfl))]; exact ⟨rfl, rfl⟩)
    (fun os started H enc _ => lifted os started H enc)

theorem proved : Rows.ModelNamesSaid := over
#print axioms proved

end Go.Proofs.Ytblgmjbajnkcdab.ModelNames
